/- Package storm and its reference: whether a place is hit, and sizes. No condition. -/
import Derived.Test.YtfnefkenheglhaaA2
namespace Go.Proofs.Ytfnefkenheglhaa
open Go.RowKit

theorem half_mul {s : Sto} {t : Tru} (hs : SmallS s) (ht : SmallT t) : 0 ≤ (s.wide - 1) * t.half ∧ (s.wide - 1) * t.half ≤ 33 := by
  have := hs.w2; have := hs.w12; have := ht.h0; have := ht.h3
  exact mul_le (A := 11) (B := 3) (by omega) (by omega) (by omega) (by omega)
theorem fall_mul {s : Sto} {t : Tru} {x y : Int} (hs : SmallS s) (ht : SmallT t) (hx : 0 ≤ x) (hx' : x ≤ 11) (hy : 0 ≤ y) (hy' : y ≤ 11) :
    0 ≤ distS s t x y / (s.wide - 1) ∧ distS s t x y / (s.wide - 1) ≤ 363 ∧ 0 ≤ s.fall * (distS s t x y / (s.wide - 1)) ∧ s.fall * (distS s t x y / (s.wide - 1)) ≤ 1452 := by
  have hd := dist_bd hs ht hx hx' hy hy'
  have h2 := hs.w2
  have h0 := Int.ediv_nonneg hd.1 (show 0 ≤ s.wide - 1 by omega)
  have h1 : distS s t x y / (s.wide - 1) ≤ distS s t x y := Int.ediv_le_self _ hd.1
  have h3 := mul_le hs.f0 hs.f4 h0 (Int.le_trans h1 hd.2)
  omega

theorem ref2_of {w W : World} {s : Sto} {p : Option Addr} {n c : Nat} {t : Tru} (h : Boxed2 w #[.int .i64 s.wide, .int .i64 s.high, .int .i64 s.fall, .int .i64 s.a.lo, .int .i64 s.a.hi, .int .i64 s.b.lo, .int .i64 s.b.hi, .int .i64 s.half.lo, .int .i64 s.half.hi, .int .i64 s.peak.lo, .int .i64 s.peak.hi, .slice p n c] 26 #[.int .i64 t.a, .int .i64 t.b, .int .i64 t.half, .int .i64 t.peak] 92 W) : W.cell? ⟨w.heap.size, 0, none⟩ = some (.int .i64 s.wide) ∧ W.cell? ⟨w.heap.size, 1, none⟩ = some (.int .i64 s.high) ∧ W.cell? ⟨w.heap.size, 2, none⟩ = some (.int .i64 s.fall) ∧ W.cell? ⟨w.heap.size, 3, none⟩ = some (.int .i64 s.a.lo) ∧ W.cell? ⟨w.heap.size, 4, none⟩ = some (.int .i64 s.a.hi) ∧ W.cell? ⟨w.heap.size, 5, none⟩ = some (.int .i64 s.b.lo) ∧ W.cell? ⟨w.heap.size, 6, none⟩ = some (.int .i64 s.b.hi) ∧ W.cell? ⟨w.heap.size, 7, none⟩ = some (.int .i64 s.half.lo) ∧ W.cell? ⟨w.heap.size, 8, none⟩ = some (.int .i64 s.half.hi) ∧ W.cell? ⟨w.heap.size, 9, none⟩ = some (.int .i64 s.peak.lo) ∧ W.cell? ⟨w.heap.size, 10, none⟩ = some (.int .i64 s.peak.hi) ∧ W.cell? ⟨w.heap.size, 11, none⟩ = some (.slice p n c) ∧ W.cell? ⟨w.heap.size + 1, 0, none⟩ = some (.int .i64 t.a) ∧ W.cell? ⟨w.heap.size + 1, 1, none⟩ = some (.int .i64 t.b) ∧ W.cell? ⟨w.heap.size + 1, 2, none⟩ = some (.int .i64 t.half) ∧ W.cell? ⟨w.heap.size + 1, 3, none⟩ = some (.int .i64 t.peak) ∧ Boxed2 w #[.int .i64 s.wide, .int .i64 s.high, .int .i64 s.fall, .int .i64 s.a.lo, .int .i64 s.a.hi, .int .i64 s.b.lo, .int .i64 s.b.hi, .int .i64 s.half.lo, .int .i64 s.half.hi, .int .i64 s.peak.lo, .int .i64 s.peak.hi, .slice p n c] 26 #[.int .i64 t.a, .int .i64 t.b, .int .i64 t.half, .int .i64 t.peak] 92 W :=
  have k := StoAt.of h.cell1
  have m := TruAt.of h.cell2
  ⟨k.c0, k.c1, k.c2, k.c3, k.c4, k.c5, k.c6, k.c7, k.c8, k.c9, k.c10, k.c11, m.c0, m.c1, m.c2, m.c3, h⟩

theorem pro2_of {w W : World} {s : Sto} {p : Option Addr} {n c : Nat} {t : Tru} (h : Boxed2 w #[.int .i64 s.wide, .int .i64 s.high, .int .i64 s.fall, .int .i64 s.a.lo, .int .i64 s.a.hi, .int .i64 s.b.lo, .int .i64 s.b.hi, .int .i64 s.half.lo, .int .i64 s.half.hi, .int .i64 s.peak.lo, .int .i64 s.peak.hi, .slice p n c] 35 #[.int .i64 t.a, .int .i64 t.b, .int .i64 t.half, .int .i64 t.peak] 94 W) : W.cell? ⟨w.heap.size, 0, none⟩ = some (.int .i64 s.wide) ∧ W.cell? ⟨w.heap.size, 1, none⟩ = some (.int .i64 s.high) ∧ W.cell? ⟨w.heap.size, 2, none⟩ = some (.int .i64 s.fall) ∧ W.cell? ⟨w.heap.size, 3, none⟩ = some (.int .i64 s.a.lo) ∧ W.cell? ⟨w.heap.size, 4, none⟩ = some (.int .i64 s.a.hi) ∧ W.cell? ⟨w.heap.size, 5, none⟩ = some (.int .i64 s.b.lo) ∧ W.cell? ⟨w.heap.size, 6, none⟩ = some (.int .i64 s.b.hi) ∧ W.cell? ⟨w.heap.size, 7, none⟩ = some (.int .i64 s.half.lo) ∧ W.cell? ⟨w.heap.size, 8, none⟩ = some (.int .i64 s.half.hi) ∧ W.cell? ⟨w.heap.size, 9, none⟩ = some (.int .i64 s.peak.lo) ∧ W.cell? ⟨w.heap.size, 10, none⟩ = some (.int .i64 s.peak.hi) ∧ W.cell? ⟨w.heap.size, 11, none⟩ = some (.slice p n c) ∧ W.cell? ⟨w.heap.size + 1, 0, none⟩ = some (.int .i64 t.a) ∧ W.cell? ⟨w.heap.size + 1, 1, none⟩ = some (.int .i64 t.b) ∧ W.cell? ⟨w.heap.size + 1, 2, none⟩ = some (.int .i64 t.half) ∧ W.cell? ⟨w.heap.size + 1, 3, none⟩ = some (.int .i64 t.peak) ∧ Boxed2 w #[.int .i64 s.wide, .int .i64 s.high, .int .i64 s.fall, .int .i64 s.a.lo, .int .i64 s.a.hi, .int .i64 s.b.lo, .int .i64 s.b.hi, .int .i64 s.half.lo, .int .i64 s.half.hi, .int .i64 s.peak.lo, .int .i64 s.peak.hi, .slice p n c] 35 #[.int .i64 t.a, .int .i64 t.b, .int .i64 t.half, .int .i64 t.peak] 94 W :=
  have k := StoAt.of h.cell1
  have m := TruAt.of h.cell2
  ⟨k.c0, k.c1, k.c2, k.c3, k.c4, k.c5, k.c6, k.c7, k.c8, k.c9, k.c10, k.c11, m.c0, m.c1, m.c2, m.c3, h⟩

set_option maxRecDepth 20000 in
set_option maxHeartbeats 1000000 in
theorem hit_any (s : Sto) (p : Option Addr) (n c : Nat) (t : Tru) (x y : Int) (w : World) (hs : SmallS s) (ht : SmallT t) (hx : 0 ≤ x) (hx' : x ≤ 11) (hy : 0 ≤ y) (hy' : y ≤ 11) :
    Calls Try.prog 96 #[.agg #[.int .i64 s.wide, .int .i64 s.high, .int .i64 s.fall, .int .i64 s.a.lo, .int .i64 s.a.hi, .int .i64 s.b.lo, .int .i64 s.b.hi, .int .i64 s.half.lo, .int .i64 s.half.hi, .int .i64 s.peak.lo, .int .i64 s.peak.hi, .slice p n c], .agg #[.int .i64 t.a, .int .i64 t.b, .int .i64 t.half, .int .i64 t.peak], .int .i64 x, .int .i64 y] w fun e w' => e = .returned (.bool (hitB s t x y)) ∧ Below w.heap.size w w' := by
  obtain ⟨m1, m2⟩ := half_mul hs ht
  have hw := hs.w2; have hw' := hs.w12
  have HD := hid (fun W => distR_any s p n c t x y W hs ht hx hx' hy hy')
  have HF := hid (show hitB s t x y = decide (distS s t x y ≤ (s.wide - 1) * t.half) from rfl)
  have q1 : IntKind.i64.wrap (s.wide - 1) = s.wide - 1 := IntWalk.i64_in _ (by omega)
  have q2 : IntKind.i64.wrap ((s.wide - 1) * t.half) = (s.wide - 1) * t.half := IntWalk.i64_in _ (by omega)
  clear hs ht
  go_enter Try.func96, Try.ntmps96
  go_wp2_with fail
  go_region_held3 (fun W => W.cell? ⟨w.heap.size, 0, none⟩ = some (.int .i64 s.wide) ∧ W.cell? ⟨w.heap.size, 1, none⟩ = some (.int .i64 s.high) ∧ W.cell? ⟨w.heap.size, 2, none⟩ = some (.int .i64 s.fall) ∧ W.cell? ⟨w.heap.size, 3, none⟩ = some (.int .i64 s.a.lo) ∧ W.cell? ⟨w.heap.size, 4, none⟩ = some (.int .i64 s.a.hi) ∧ W.cell? ⟨w.heap.size, 5, none⟩ = some (.int .i64 s.b.lo) ∧ W.cell? ⟨w.heap.size, 6, none⟩ = some (.int .i64 s.b.hi) ∧ W.cell? ⟨w.heap.size, 7, none⟩ = some (.int .i64 s.half.lo) ∧ W.cell? ⟨w.heap.size, 8, none⟩ = some (.int .i64 s.half.hi) ∧ W.cell? ⟨w.heap.size, 9, none⟩ = some (.int .i64 s.peak.lo) ∧ W.cell? ⟨w.heap.size, 10, none⟩ = some (.int .i64 s.peak.hi) ∧ W.cell? ⟨w.heap.size, 11, none⟩ = some (.slice p n c) ∧ W.cell? ⟨w.heap.size + 1, 0, none⟩ = some (.int .i64 t.a) ∧ W.cell? ⟨w.heap.size + 1, 1, none⟩ = some (.int .i64 t.b) ∧ W.cell? ⟨w.heap.size + 1, 2, none⟩ = some (.int .i64 t.half) ∧ W.cell? ⟨w.heap.size + 1, 3, none⟩ = some (.int .i64 t.peak) ∧ Boxed2 w #[.int .i64 s.wide, .int .i64 s.high, .int .i64 s.fall, .int .i64 s.a.lo, .int .i64 s.a.hi, .int .i64 s.b.lo, .int .i64 s.b.hi, .int .i64 s.half.lo, .int .i64 s.half.hi, .int .i64 s.peak.lo, .int .i64 s.peak.hi, .slice p n c] 26 #[.int .i64 t.a, .int .i64 t.b, .int .i64 t.half, .int .i64 t.peak] 92 W)
    (first | exact ref2_of (by assumption) | exact ref2_of (Boxed2.drew (by assumption)) | exact ref2_of (Below.refl _ _).drew | exact ref2_of (Below.refl _ _))
    ((go_at_call 106; go_split_ands; (with_reducible refine (HD.out _).mono ?_); rintro e w1 ⟨rfl, hb⟩; have HB := Boxed2.step1 (by assumption) hb; clear hb))
  all_goals
    go_wp2
    go_ret
    exact ⟨ret_bool HF.out.symm, HB.below⟩

set_option maxRecDepth 20000 in
set_option maxHeartbeats 1000000 in
theorem sizeR_any (s : Sto) (p : Option Addr) (n c : Nat) (t : Tru) (x y : Int) (w : World) (hs : SmallS s) (ht : SmallT t) (hx : 0 ≤ x) (hx' : x ≤ 11) (hy : 0 ≤ y) (hy' : y ≤ 11) :
    Calls Try.prog 63 #[.agg #[.int .i64 s.wide, .int .i64 s.high, .int .i64 s.fall, .int .i64 s.a.lo, .int .i64 s.a.hi, .int .i64 s.b.lo, .int .i64 s.b.hi, .int .i64 s.half.lo, .int .i64 s.half.hi, .int .i64 s.peak.lo, .int .i64 s.peak.hi, .slice p n c], .agg #[.int .i64 t.a, .int .i64 t.b, .int .i64 t.half, .int .i64 t.peak], .int .i64 x, .int .i64 y] w fun e w' => e = .returned (.int .i64 (sizeS s t x y)) ∧ Below w.heap.size w w' := by
  obtain ⟨m1, m2, m3, m4⟩ := fall_mul hs ht hx hx' hy hy'
  have hw := hs.w2; have hw' := hs.w12; have hd := dist_bd hs ht hx hx' hy hy'
  have HD := hid (fun W => distR_any s p n c t x y W hs ht hx hx' hy hy')
  have HH := hid (fun W => hit_any s p n c t x y W hs ht hx hx' hy hy')
  have HF := hid (show sizeS s t x y = if hitB s t x y = true then (if 1 < t.peak - s.fall * (distS s t x y / (s.wide - 1)) then t.peak - s.fall * (distS s t x y / (s.wide - 1)) else 1) else 0 from rfl)
  have hp := ht.p0; have hp' := ht.p9
  have q1 : IntKind.i64.wrap (s.wide - 1) = s.wide - 1 := IntWalk.i64_in _ (by omega)
  have q2 : IntKind.i64.wrap (s.fall * (distS s t x y / (s.wide - 1))) = s.fall * (distS s t x y / (s.wide - 1)) := IntWalk.i64_in _ (by omega)
  have q3 : IntKind.i64.wrap (t.peak - s.fall * (distS s t x y / (s.wide - 1))) = t.peak - s.fall * (distS s t x y / (s.wide - 1)) := IntWalk.i64_in _ (by omega)
  have q4 : (distS s t x y).tdiv (s.wide - 1) = distS s t x y / (s.wide - 1) := Int.tdiv_eq_ediv_of_nonneg hd.1
  have q5 : IntKind.i64.wrap (distS s t x y / (s.wide - 1)) = distS s t x y / (s.wide - 1) := IntWalk.i64_in _ (by omega)
  have q6 : ¬ s.wide - 1 = 0 := by omega
  clear hs ht
  go_enter Try.func63, Try.ntmps63
  go_wp2_with fail
  (with_reducible refine (HH.out _).mono ?_)
  rintro e w1 ⟨rfl, hb⟩
  have HB : Boxed2 w #[.int .i64 s.wide, .int .i64 s.high, .int .i64 s.fall, .int .i64 s.a.lo, .int .i64 s.a.hi, .int .i64 s.b.lo, .int .i64 s.b.hi, .int .i64 s.half.lo, .int .i64 s.half.hi, .int .i64 s.peak.lo, .int .i64 s.peak.hi, .slice p n c] 26 #[.int .i64 t.a, .int .i64 t.b, .int .i64 t.half, .int .i64 t.peak] 92 w1 := hb.mono (by simp)
  clear hb
  cases h1 : hitB s t x y
  · go_wp2_with fail
    go_ret
    exact ⟨ret_int (by rw [HF.out, h1]; rfl), HB.below⟩
  · go_wp2_with fail
    go_region_held3 (fun W => W.cell? ⟨w.heap.size, 0, none⟩ = some (.int .i64 s.wide) ∧ W.cell? ⟨w.heap.size, 1, none⟩ = some (.int .i64 s.high) ∧ W.cell? ⟨w.heap.size, 2, none⟩ = some (.int .i64 s.fall) ∧ W.cell? ⟨w.heap.size, 3, none⟩ = some (.int .i64 s.a.lo) ∧ W.cell? ⟨w.heap.size, 4, none⟩ = some (.int .i64 s.a.hi) ∧ W.cell? ⟨w.heap.size, 5, none⟩ = some (.int .i64 s.b.lo) ∧ W.cell? ⟨w.heap.size, 6, none⟩ = some (.int .i64 s.b.hi) ∧ W.cell? ⟨w.heap.size, 7, none⟩ = some (.int .i64 s.half.lo) ∧ W.cell? ⟨w.heap.size, 8, none⟩ = some (.int .i64 s.half.hi) ∧ W.cell? ⟨w.heap.size, 9, none⟩ = some (.int .i64 s.peak.lo) ∧ W.cell? ⟨w.heap.size, 10, none⟩ = some (.int .i64 s.peak.hi) ∧ W.cell? ⟨w.heap.size, 11, none⟩ = some (.slice p n c) ∧ W.cell? ⟨w.heap.size + 1, 0, none⟩ = some (.int .i64 t.a) ∧ W.cell? ⟨w.heap.size + 1, 1, none⟩ = some (.int .i64 t.b) ∧ W.cell? ⟨w.heap.size + 1, 2, none⟩ = some (.int .i64 t.half) ∧ W.cell? ⟨w.heap.size + 1, 3, none⟩ = some (.int .i64 t.peak) ∧ Boxed2 w #[.int .i64 s.wide, .int .i64 s.high, .int .i64 s.fall, .int .i64 s.a.lo, .int .i64 s.a.hi, .int .i64 s.b.lo, .int .i64 s.b.hi, .int .i64 s.half.lo, .int .i64 s.half.hi, .int .i64 s.peak.lo, .int .i64 s.peak.hi, .slice p n c] 26 #[.int .i64 t.a, .int .i64 t.b, .int .i64 t.half, .int .i64 t.peak] 92 W)
      (first | exact ref2_of (by assumption) | exact ref2_of (Boxed2.drew (by assumption)) | exact ref2_of (Below.refl _ _).drew | exact ref2_of (Below.refl _ _))
      ((go_at_call 106; go_split_ands; (with_reducible refine (HD.out _).mono ?_); rintro e w1 ⟨rfl, hb⟩; have HB := Boxed2.step1 (by assumption) hb; clear hb))
    all_goals
      go_wp2
      all_goals
        go_ret
        exact ⟨ret_int (by rw [HF.out, if_pos h1]; split <;> omega), HB.below⟩

set_option maxRecDepth 20000 in
set_option maxHeartbeats 1000000 in
theorem size_any (s : Sto) (p : Option Addr) (n c : Nat) (t : Tru) (x y : Int) (w : World) (hs : SmallS s) (ht : SmallT t) (hx : 0 ≤ x) (hx' : x ≤ 11) (hy : 0 ≤ y) (hy' : y ≤ 11) :
    Calls Try.prog 75 #[.agg #[.int .i64 s.wide, .int .i64 s.high, .int .i64 s.fall, .int .i64 s.a.lo, .int .i64 s.a.hi, .int .i64 s.b.lo, .int .i64 s.b.hi, .int .i64 s.half.lo, .int .i64 s.half.hi, .int .i64 s.peak.lo, .int .i64 s.peak.hi, .slice p n c], .agg #[.int .i64 t.a, .int .i64 t.b, .int .i64 t.half, .int .i64 t.peak], .int .i64 x, .int .i64 y] w fun e w' => e = .returned (.int .i64 (sizeS s t x y)) ∧ Below w.heap.size w w' := by
  obtain ⟨m1, m2, m3, m4⟩ := fall_mul hs ht hx hx' hy hy'
  obtain ⟨m5, m6⟩ := half_mul hs ht
  have hw := hs.w2; have hw' := hs.w12; have hd := dist_bd hs ht hx hx' hy hy'
  have HD := hid (fun W => dist_any s p n c t x y W hs ht hx hx' hy hy')
  have HF := hid (show sizeS s t x y = if hitB s t x y = true then (if 1 < t.peak - s.fall * (distS s t x y / (s.wide - 1)) then t.peak - s.fall * (distS s t x y / (s.wide - 1)) else 1) else 0 from rfl)
  have HH := hid (show hitB s t x y = decide (distS s t x y ≤ (s.wide - 1) * t.half) from rfl)
  have hp := ht.p0; have hp' := ht.p9
  have q1 : IntKind.i64.wrap (s.wide - 1) = s.wide - 1 := IntWalk.i64_in _ (by omega)
  have q2 : IntKind.i64.wrap (s.fall * (distS s t x y / (s.wide - 1))) = s.fall * (distS s t x y / (s.wide - 1)) := IntWalk.i64_in _ (by omega)
  have q3 : IntKind.i64.wrap (t.peak - s.fall * (distS s t x y / (s.wide - 1))) = t.peak - s.fall * (distS s t x y / (s.wide - 1)) := IntWalk.i64_in _ (by omega)
  have q4 : (distS s t x y).tdiv (s.wide - 1) = distS s t x y / (s.wide - 1) := Int.tdiv_eq_ediv_of_nonneg hd.1
  have q5 : IntKind.i64.wrap (distS s t x y / (s.wide - 1)) = distS s t x y / (s.wide - 1) := IntWalk.i64_in _ (by omega)
  have q6 : ¬ s.wide - 1 = 0 := by omega
  clear hs ht
  by_cases h1 : (s.wide - 1) * t.half < distS s t x y
  · have h1' : hitB s t x y = false := by rw [HH.out]; simp; omega
    have HH1 := hid h1'
    clear h1'
    go_enter Try.func75, Try.ntmps75
    go_wp2_with fail
    go_region_held3 (fun W => W.cell? ⟨w.heap.size, 0, none⟩ = some (.int .i64 s.wide) ∧ W.cell? ⟨w.heap.size, 1, none⟩ = some (.int .i64 s.high) ∧ W.cell? ⟨w.heap.size, 2, none⟩ = some (.int .i64 s.fall) ∧ W.cell? ⟨w.heap.size, 3, none⟩ = some (.int .i64 s.a.lo) ∧ W.cell? ⟨w.heap.size, 4, none⟩ = some (.int .i64 s.a.hi) ∧ W.cell? ⟨w.heap.size, 5, none⟩ = some (.int .i64 s.b.lo) ∧ W.cell? ⟨w.heap.size, 6, none⟩ = some (.int .i64 s.b.hi) ∧ W.cell? ⟨w.heap.size, 7, none⟩ = some (.int .i64 s.half.lo) ∧ W.cell? ⟨w.heap.size, 8, none⟩ = some (.int .i64 s.half.hi) ∧ W.cell? ⟨w.heap.size, 9, none⟩ = some (.int .i64 s.peak.lo) ∧ W.cell? ⟨w.heap.size, 10, none⟩ = some (.int .i64 s.peak.hi) ∧ W.cell? ⟨w.heap.size, 11, none⟩ = some (.slice p n c) ∧ W.cell? ⟨w.heap.size + 1, 0, none⟩ = some (.int .i64 t.a) ∧ W.cell? ⟨w.heap.size + 1, 1, none⟩ = some (.int .i64 t.b) ∧ W.cell? ⟨w.heap.size + 1, 2, none⟩ = some (.int .i64 t.half) ∧ W.cell? ⟨w.heap.size + 1, 3, none⟩ = some (.int .i64 t.peak) ∧ Boxed2 w #[.int .i64 s.wide, .int .i64 s.high, .int .i64 s.fall, .int .i64 s.a.lo, .int .i64 s.a.hi, .int .i64 s.b.lo, .int .i64 s.b.hi, .int .i64 s.half.lo, .int .i64 s.half.hi, .int .i64 s.peak.lo, .int .i64 s.peak.hi, .slice p n c] 35 #[.int .i64 t.a, .int .i64 t.b, .int .i64 t.half, .int .i64 t.peak] 94 W)
      (first | exact pro2_of (by assumption) | exact pro2_of (Boxed2.drew (by assumption)) | exact pro2_of (Below.refl _ _).drew | exact pro2_of (Below.refl _ _))
      ((go_at_call 111; go_split_ands; (with_reducible refine (HD.out _).mono ?_); rintro e w1 ⟨rfl, hb⟩; have HB := Boxed2.step1 (by assumption) hb; clear hb))
    all_goals
      have k2 := (TruAt.of HB.cell2).c2
      go_wp2
      go_ret
      exact ⟨ret_int (by rw [HF.out, HH1.out]; rfl), HB.below⟩
  · have h1' : hitB s t x y = true := by rw [HH.out]; simp; omega
    have HH1 := hid h1'
    clear h1'
    go_enter Try.func75, Try.ntmps75
    go_wp2_with fail
    go_region_held3 (fun W => W.cell? ⟨w.heap.size, 0, none⟩ = some (.int .i64 s.wide) ∧ W.cell? ⟨w.heap.size, 1, none⟩ = some (.int .i64 s.high) ∧ W.cell? ⟨w.heap.size, 2, none⟩ = some (.int .i64 s.fall) ∧ W.cell? ⟨w.heap.size, 3, none⟩ = some (.int .i64 s.a.lo) ∧ W.cell? ⟨w.heap.size, 4, none⟩ = some (.int .i64 s.a.hi) ∧ W.cell? ⟨w.heap.size, 5, none⟩ = some (.int .i64 s.b.lo) ∧ W.cell? ⟨w.heap.size, 6, none⟩ = some (.int .i64 s.b.hi) ∧ W.cell? ⟨w.heap.size, 7, none⟩ = some (.int .i64 s.half.lo) ∧ W.cell? ⟨w.heap.size, 8, none⟩ = some (.int .i64 s.half.hi) ∧ W.cell? ⟨w.heap.size, 9, none⟩ = some (.int .i64 s.peak.lo) ∧ W.cell? ⟨w.heap.size, 10, none⟩ = some (.int .i64 s.peak.hi) ∧ W.cell? ⟨w.heap.size, 11, none⟩ = some (.slice p n c) ∧ W.cell? ⟨w.heap.size + 1, 0, none⟩ = some (.int .i64 t.a) ∧ W.cell? ⟨w.heap.size + 1, 1, none⟩ = some (.int .i64 t.b) ∧ W.cell? ⟨w.heap.size + 1, 2, none⟩ = some (.int .i64 t.half) ∧ W.cell? ⟨w.heap.size + 1, 3, none⟩ = some (.int .i64 t.peak) ∧ Boxed2 w #[.int .i64 s.wide, .int .i64 s.high, .int .i64 s.fall, .int .i64 s.a.lo, .int .i64 s.a.hi, .int .i64 s.b.lo, .int .i64 s.b.hi, .int .i64 s.half.lo, .int .i64 s.half.hi, .int .i64 s.peak.lo, .int .i64 s.peak.hi, .slice p n c] 35 #[.int .i64 t.a, .int .i64 t.b, .int .i64 t.half, .int .i64 t.peak] 94 W)
      (first | exact pro2_of (by assumption) | exact pro2_of (Boxed2.drew (by assumption)) | exact pro2_of (Below.refl _ _).drew | exact pro2_of (Below.refl _ _))
      ((go_at_call 111; go_split_ands; (with_reducible refine (HD.out _).mono ?_); rintro e w1 ⟨rfl, hb⟩; have HB := Boxed2.step1 (by assumption) hb; clear hb))
    all_goals
      have k2 := (TruAt.of HB.cell2).c2
      have k3 := (TruAt.of HB.cell2).c3
      have k4 := (StoAt.of HB.cell1).c2
      go_wp2
      go_quiet (fail)
      go_wp2
      all_goals
        go_ret
        exact ⟨ret_int (by rw [HF.out, if_pos HH1.out]; split <;> omega), (HB.drewN _).below⟩
end Go.Proofs.Ytfnefkenheglhaa
