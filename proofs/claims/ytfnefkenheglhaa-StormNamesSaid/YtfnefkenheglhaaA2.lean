/- Package storm and its reference: how many truths, distances, sizes. No condition. -/
import Derived.Test.YtfnefkenheglhaaA1
import Derived.IntWalk
namespace Go.Proofs.Ytfnefkenheglhaa
open Go.RowKit

theorem ranges_bd {s : Sto} (hr : rangesB s = true) (h12 : s.high ≤ 12) : -1000000 ≤ s.a.lo ∧ s.a.lo ≤ 1000000 ∧ -1000000 ≤ s.a.hi ∧ s.a.hi ≤ 1000000 ∧ -1000000 ≤ s.b.lo ∧ s.b.lo ≤ 1000000 ∧ -1000000 ≤ s.b.hi ∧ s.b.hi ≤ 1000000 ∧
    -1000000 ≤ s.half.lo ∧ s.half.lo ≤ 1000000 ∧ -1000000 ≤ s.half.hi ∧ s.half.hi ≤ 1000000 ∧ -1000000 ≤ s.peak.lo ∧ s.peak.lo ≤ 1000000 ∧ -1000000 ≤ s.peak.hi ∧ s.peak.hi ≤ 1000000 := by
  simp only [rangesB, Bool.and_eq_true, Rng.of_iff] at hr
  omega
theorem many_bd {s : Sto} (hr : rangesB s = true) (h12 : s.high ≤ 12) : 1 ≤ s.a.cnt ∧ s.a.cnt ≤ 12 ∧ 1 ≤ s.b.cnt ∧ s.b.cnt ≤ 12 ∧ 1 ≤ s.half.cnt ∧ s.half.cnt ≤ 4 ∧ 1 ≤ s.peak.cnt ∧ s.peak.cnt ≤ 9 := by
  simp only [rangesB, Bool.and_eq_true, Rng.of_iff] at hr
  unfold Rng.cnt
  omega
theorem mul_le {a b A B : Int} (a0 : 0 ≤ a) (hA : a ≤ A) (b0 : 0 ≤ b) (hB : b ≤ B) : 0 ≤ a * b ∧ a * b ≤ A * B :=
  ⟨Int.mul_nonneg a0 b0, Int.mul_le_mul hA hB b0 (by omega)⟩
theorem many_mul {s : Sto} (hr : rangesB s = true) (h12 : s.high ≤ 12) : 0 ≤ s.a.cnt * s.b.cnt ∧ s.a.cnt * s.b.cnt ≤ 144 ∧ 0 ≤ s.a.cnt * s.b.cnt * s.half.cnt ∧ s.a.cnt * s.b.cnt * s.half.cnt ≤ 576 ∧ 0 ≤ s.a.cnt * s.b.cnt * s.half.cnt * s.peak.cnt ∧ s.a.cnt * s.b.cnt * s.half.cnt * s.peak.cnt ≤ 5184 := by
  obtain ⟨a0, a1, b0, b1, d0, d1, p0, p1⟩ := many_bd hr h12
  have m1 := mul_le (by omega) a1 (by omega) b1
  have m2 := mul_le m1.1 m1.2 (by omega) d1
  have m3 := mul_le m2.1 m2.2 (by omega) p1
  omega

/-- A storm whose numbers are small. -/
structure SmallS (s : Sto) : Prop where
  w2 : 2 ≤ s.wide
  w12 : s.wide ≤ 12
  f0 : 0 ≤ s.fall
  f4 : s.fall ≤ 4
structure SmallT (t : Tru) : Prop where
  a0 : 0 ≤ t.a
  a9 : t.a ≤ 11
  b0 : 0 ≤ t.b
  b9 : t.b ≤ 11
  h0 : 0 ≤ t.half
  h3 : t.half ≤ 3
  p0 : 0 ≤ t.peak
  p9 : t.peak ≤ 9
theorem OkS.small {s : Sto} (h : OkS s) : SmallS s := ⟨h.w2, h.w12, h.f0, h.f4⟩
theorem OkS.ranges {s : Sto} (h : OkS s) : rangesB s = true := by simp [rangesB, h.a, h.b, h.half, h.peak]
theorem OkS.smallT {s : Sto} (h : OkS s) {t : Tru} (ht : truB s t = true) : SmallT t := by
  have a := Rng.of_iff.1 h.a; have b := Rng.of_iff.1 h.b; have c := Rng.of_iff.1 h.half; have d := Rng.of_iff.1 h.peak; have e := h.h12
  simp only [truB, Bool.and_eq_true, inB_iff] at ht
  constructor <;> omega
theorem mul_abs {a b A B : Int} (h1 : -A ≤ a) (h2 : a ≤ A) (h3 : -B ≤ b) (h4 : b ≤ B) : -(A * B) ≤ a * b ∧ a * b ≤ A * B := by
  have hA : 0 ≤ A := by omega
  have hB : 0 ≤ B := by omega
  have x1 : 0 ≤ (A - a) * (B + b) := Int.mul_nonneg (by omega) (by omega)
  have x2 : 0 ≤ (A + a) * (B - b) := Int.mul_nonneg (by omega) (by omega)
  have x3 : 0 ≤ (A - a) * (B - b) := Int.mul_nonneg (by omega) (by omega)
  have x4 : 0 ≤ (A + a) * (B + b) := Int.mul_nonneg (by omega) (by omega)
  simp only [Int.sub_mul, Int.add_mul, Int.mul_add, Int.mul_sub] at x1 x2 x3 x4
  omega
theorem dist_mul {s : Sto} {t : Tru} {x y : Int} (hs : SmallS s) (ht : SmallT t) (hx : 0 ≤ x) (hx' : x ≤ 11) (hy : 0 ≤ y) (hy' : y ≤ 11) :
    -121 ≤ (s.wide - 1) * y ∧ (s.wide - 1) * y ≤ 121 ∧ -121 ≤ t.a * (s.wide - 1 - x) ∧ t.a * (s.wide - 1 - x) ≤ 121 ∧ -121 ≤ t.b * x ∧ t.b * x ≤ 121 := by
  have := hs.w2; have := hs.w12; have := ht.a0; have := ht.a9; have := ht.b0; have := ht.b9
  have a := mul_abs (a := s.wide - 1) (b := y) (A := 11) (B := 11) (by omega) (by omega) (by omega) (by omega)
  have b := mul_abs (a := t.a) (b := s.wide - 1 - x) (A := 11) (B := 11) (by omega) (by omega) (by omega) (by omega)
  have c := mul_abs (a := t.b) (b := x) (A := 11) (B := 11) (by omega) (by omega) (by omega) (by omega)
  omega
theorem dist_eq (s : Sto) (t : Tru) (x y : Int) : distS s t x y = if (s.wide - 1) * y - (t.a * (s.wide - 1 - x) + t.b * x) < 0 then -((s.wide - 1) * y - (t.a * (s.wide - 1 - x) + t.b * x)) else (s.wide - 1) * y - (t.a * (s.wide - 1 - x) + t.b * x) := rfl
theorem dist_bd {s : Sto} {t : Tru} {x y : Int} (hs : SmallS s) (ht : SmallT t) (hx : 0 ≤ x) (hx' : x ≤ 11) (hy : 0 ≤ y) (hy' : y ≤ 11) : 0 ≤ distS s t x y ∧ distS s t x y ≤ 363 := by
  obtain ⟨m1, m2, m3, m4, m5, m6⟩ := dist_mul hs ht hx hx' hy hy'
  rw [dist_eq]
  split <;> omega

theorem ref_of {w W : World} {s : Sto} {p : Option Addr} {n c : Nat} (h : Boxed1 w #[.int .i64 s.wide, .int .i64 s.high, .int .i64 s.fall, .int .i64 s.a.lo, .int .i64 s.a.hi, .int .i64 s.b.lo, .int .i64 s.b.hi, .int .i64 s.half.lo, .int .i64 s.half.hi, .int .i64 s.peak.lo, .int .i64 s.peak.hi, .slice p n c] 26 W) : W.cell? ⟨w.heap.size, 3, none⟩ = some (.int .i64 s.a.lo) ∧ W.cell? ⟨w.heap.size, 4, none⟩ = some (.int .i64 s.a.hi) ∧ W.cell? ⟨w.heap.size, 5, none⟩ = some (.int .i64 s.b.lo) ∧ W.cell? ⟨w.heap.size, 6, none⟩ = some (.int .i64 s.b.hi) ∧ W.cell? ⟨w.heap.size, 7, none⟩ = some (.int .i64 s.half.lo) ∧ W.cell? ⟨w.heap.size, 8, none⟩ = some (.int .i64 s.half.hi) ∧ W.cell? ⟨w.heap.size, 9, none⟩ = some (.int .i64 s.peak.lo) ∧ W.cell? ⟨w.heap.size, 10, none⟩ = some (.int .i64 s.peak.hi) ∧ Boxed1 w #[.int .i64 s.wide, .int .i64 s.high, .int .i64 s.fall, .int .i64 s.a.lo, .int .i64 s.a.hi, .int .i64 s.b.lo, .int .i64 s.b.hi, .int .i64 s.half.lo, .int .i64 s.half.hi, .int .i64 s.peak.lo, .int .i64 s.peak.hi, .slice p n c] 26 W :=
  have k := StoAt.of h.cell
  ⟨k.c3, k.c4, k.c5, k.c6, k.c7, k.c8, k.c9, k.c10, h⟩

set_option maxRecDepth 20000 in
set_option maxHeartbeats 1000000 in
theorem many_any (s : Sto) (p : Option Addr) (n c : Nat) (w : World) (hr : rangesB s = true) (h12 : s.high ≤ 12) :
    Calls Try.prog 71 #[.agg #[.int .i64 s.wide, .int .i64 s.high, .int .i64 s.fall, .int .i64 s.a.lo, .int .i64 s.a.hi, .int .i64 s.b.lo, .int .i64 s.b.hi, .int .i64 s.half.lo, .int .i64 s.half.hi, .int .i64 s.peak.lo, .int .i64 s.peak.hi, .slice p n c]] w fun e w' => e = .returned (.int .i64 (manyS s)) ∧ Below w.heap.size w w' := by
  obtain ⟨a0, a1, b0, b1, d0, d1, p0, p1⟩ := many_bd hr h12
  have m := many_mul hr h12
  have HF := hid (show manyS s = s.a.cnt * s.b.cnt * s.half.cnt * s.peak.cnt from rfl)
  have x1 : IntKind.i64.wrap (s.a.cnt * s.b.cnt) = s.a.cnt * s.b.cnt := IntWalk.i64_in _ (by omega)
  have x2 : IntKind.i64.wrap (s.a.cnt * s.b.cnt * s.half.cnt) = s.a.cnt * s.b.cnt * s.half.cnt := IntWalk.i64_in _ (by omega)
  have x3 : IntKind.i64.wrap (s.a.cnt * s.b.cnt * s.half.cnt * s.peak.cnt) = s.a.cnt * s.b.cnt * s.half.cnt * s.peak.cnt := IntWalk.i64_in _ (by omega)
  obtain ⟨r1, r2, r3, r4, r5, r6, r7, r8, r9, r10, r11, r12, r13, r14, r15, r16⟩ := ranges_bd hr h12
  clear m
  go_enter Try.func71, Try.ntmps71
  go_wp2_with fail
  go_region_held3 (fun W => W.cell? ⟨w.heap.size, 3, none⟩ = some (.int .i64 s.a.lo) ∧ W.cell? ⟨w.heap.size, 4, none⟩ = some (.int .i64 s.a.hi) ∧ W.cell? ⟨w.heap.size, 5, none⟩ = some (.int .i64 s.b.lo) ∧ W.cell? ⟨w.heap.size, 6, none⟩ = some (.int .i64 s.b.hi) ∧ W.cell? ⟨w.heap.size, 7, none⟩ = some (.int .i64 s.half.lo) ∧ W.cell? ⟨w.heap.size, 8, none⟩ = some (.int .i64 s.half.hi) ∧ W.cell? ⟨w.heap.size, 9, none⟩ = some (.int .i64 s.peak.lo) ∧ W.cell? ⟨w.heap.size, 10, none⟩ = some (.int .i64 s.peak.hi) ∧ Boxed1 w #[.int .i64 s.wide, .int .i64 s.high, .int .i64 s.fall, .int .i64 s.a.lo, .int .i64 s.a.hi, .int .i64 s.b.lo, .int .i64 s.b.hi, .int .i64 s.half.lo, .int .i64 s.half.hi, .int .i64 s.peak.lo, .int .i64 s.peak.hi, .slice p n c] 26 W)
    (first | exact ref_of (by assumption) | exact ref_of (Boxed1.drew (by assumption)) | exact ref_of (Boxed1.start _ _ _).drew | exact ref_of (Boxed1.start _ _ _))
    ((go_at_call 48; go_split_ands; (with_reducible refine (count_any _ _ ?_ ?_ ?_ ?_).mono ?_); assumption; assumption; assumption; assumption; rintro e w1 ⟨rfl, hb⟩; have HB := Boxed1.step (by assumption) hb; clear hb))
  all_goals
    go_wp2
    go_ret
    exact ⟨ret_int HF.out.symm, HB.below⟩

theorem pro_of {w W : World} {s : Sto} {p : Option Addr} {n c : Nat} (h : Boxed1 w #[.int .i64 s.wide, .int .i64 s.high, .int .i64 s.fall, .int .i64 s.a.lo, .int .i64 s.a.hi, .int .i64 s.b.lo, .int .i64 s.b.hi, .int .i64 s.half.lo, .int .i64 s.half.hi, .int .i64 s.peak.lo, .int .i64 s.peak.hi, .slice p n c] 35 W) : W.cell? ⟨w.heap.size, 3, none⟩ = some (.int .i64 s.a.lo) ∧ W.cell? ⟨w.heap.size, 4, none⟩ = some (.int .i64 s.a.hi) ∧ W.cell? ⟨w.heap.size, 5, none⟩ = some (.int .i64 s.b.lo) ∧ W.cell? ⟨w.heap.size, 6, none⟩ = some (.int .i64 s.b.hi) ∧ W.cell? ⟨w.heap.size, 7, none⟩ = some (.int .i64 s.half.lo) ∧ W.cell? ⟨w.heap.size, 8, none⟩ = some (.int .i64 s.half.hi) ∧ W.cell? ⟨w.heap.size, 9, none⟩ = some (.int .i64 s.peak.lo) ∧ W.cell? ⟨w.heap.size, 10, none⟩ = some (.int .i64 s.peak.hi) ∧ Boxed1 w #[.int .i64 s.wide, .int .i64 s.high, .int .i64 s.fall, .int .i64 s.a.lo, .int .i64 s.a.hi, .int .i64 s.b.lo, .int .i64 s.b.hi, .int .i64 s.half.lo, .int .i64 s.half.hi, .int .i64 s.peak.lo, .int .i64 s.peak.hi, .slice p n c] 35 W :=
  have k := StoAt.of h.cell
  ⟨k.c3, k.c4, k.c5, k.c6, k.c7, k.c8, k.c9, k.c10, h⟩

set_option maxRecDepth 20000 in
set_option maxHeartbeats 1000000 in
theorem manyP_any (s : Sto) (p : Option Addr) (n c : Nat) (w : World) (hr : rangesB s = true) (h12 : s.high ≤ 12) :
    Calls Try.prog 102 #[.agg #[.int .i64 s.wide, .int .i64 s.high, .int .i64 s.fall, .int .i64 s.a.lo, .int .i64 s.a.hi, .int .i64 s.b.lo, .int .i64 s.b.hi, .int .i64 s.half.lo, .int .i64 s.half.hi, .int .i64 s.peak.lo, .int .i64 s.peak.hi, .slice p n c]] w fun e w' => e = .returned (.int .i64 (manyS s)) ∧ Below w.heap.size w w' := by
  obtain ⟨a0, a1, b0, b1, d0, d1, p0, p1⟩ := many_bd hr h12
  have m := many_mul hr h12
  have HF := hid (show manyS s = s.a.cnt * s.b.cnt * s.half.cnt * s.peak.cnt from rfl)
  have x1 : IntKind.i64.wrap (s.a.cnt * s.b.cnt) = s.a.cnt * s.b.cnt := IntWalk.i64_in _ (by omega)
  have x2 : IntKind.i64.wrap (s.a.cnt * s.b.cnt * s.half.cnt) = s.a.cnt * s.b.cnt * s.half.cnt := IntWalk.i64_in _ (by omega)
  have x3 : IntKind.i64.wrap (s.a.cnt * s.b.cnt * s.half.cnt * s.peak.cnt) = s.a.cnt * s.b.cnt * s.half.cnt * s.peak.cnt := IntWalk.i64_in _ (by omega)
  obtain ⟨r1, r2, r3, r4, r5, r6, r7, r8, r9, r10, r11, r12, r13, r14, r15, r16⟩ := ranges_bd hr h12
  clear m
  go_enter Try.func102, Try.ntmps102
  go_wp2_with fail
  go_region_held3 (fun W => W.cell? ⟨w.heap.size, 3, none⟩ = some (.int .i64 s.a.lo) ∧ W.cell? ⟨w.heap.size, 4, none⟩ = some (.int .i64 s.a.hi) ∧ W.cell? ⟨w.heap.size, 5, none⟩ = some (.int .i64 s.b.lo) ∧ W.cell? ⟨w.heap.size, 6, none⟩ = some (.int .i64 s.b.hi) ∧ W.cell? ⟨w.heap.size, 7, none⟩ = some (.int .i64 s.half.lo) ∧ W.cell? ⟨w.heap.size, 8, none⟩ = some (.int .i64 s.half.hi) ∧ W.cell? ⟨w.heap.size, 9, none⟩ = some (.int .i64 s.peak.lo) ∧ W.cell? ⟨w.heap.size, 10, none⟩ = some (.int .i64 s.peak.hi) ∧ Boxed1 w #[.int .i64 s.wide, .int .i64 s.high, .int .i64 s.fall, .int .i64 s.a.lo, .int .i64 s.a.hi, .int .i64 s.b.lo, .int .i64 s.b.hi, .int .i64 s.half.lo, .int .i64 s.half.hi, .int .i64 s.peak.lo, .int .i64 s.peak.hi, .slice p n c] 35 W)
    (first | exact pro_of (by assumption) | exact pro_of (Boxed1.drew (by assumption)) | exact pro_of (Boxed1.start _ _ _).drew | exact pro_of (Boxed1.start _ _ _))
    ((go_at_call 114; go_split_ands; (with_reducible refine (rsize_any _ _ ?_ ?_ ?_ ?_).mono ?_); assumption; assumption; assumption; assumption; rintro e w1 ⟨rfl, hb⟩; have HB := Boxed1.step (by assumption) hb; clear hb))
  all_goals
    go_wp2
    go_ret
    exact ⟨ret_int HF.out.symm, HB.below⟩

set_option maxRecDepth 20000 in
set_option maxHeartbeats 1000000 in
theorem distR_any (s : Sto) (p : Option Addr) (n c : Nat) (t : Tru) (x y : Int) (w : World) (hs : SmallS s) (ht : SmallT t) (hx : 0 ≤ x) (hx' : x ≤ 11) (hy : 0 ≤ y) (hy' : y ≤ 11) :
    Calls Try.prog 106 #[.agg #[.int .i64 s.wide, .int .i64 s.high, .int .i64 s.fall, .int .i64 s.a.lo, .int .i64 s.a.hi, .int .i64 s.b.lo, .int .i64 s.b.hi, .int .i64 s.half.lo, .int .i64 s.half.hi, .int .i64 s.peak.lo, .int .i64 s.peak.hi, .slice p n c], .agg #[.int .i64 t.a, .int .i64 t.b, .int .i64 t.half, .int .i64 t.peak], .int .i64 x, .int .i64 y] w fun e w' => e = .returned (.int .i64 (distS s t x y)) ∧ Below w.heap.size w w' := by
  obtain ⟨m1, m2, m3, m4, m5, m6⟩ := dist_mul hs ht hx hx' hy hy'
  have hw := hs.w2; have hw' := hs.w12
  have HF := hid (dist_eq s t x y)
  clear hs ht
  obtain ⟨A, hA⟩ : ∃ A, (s.wide - 1) * y = A := ⟨_, rfl⟩
  obtain ⟨B, hB⟩ : ∃ A, t.a * (s.wide - 1 - x) = A := ⟨_, rfl⟩
  obtain ⟨C, hC⟩ : ∃ A, t.b * x = A := ⟨_, rfl⟩
  rw [hA] at m1 m2; rw [hB] at m3 m4; rw [hC] at m5 m6
  have HF2 : Hid (distS s t x y = if A - (B + C) < 0 then -(A - (B + C)) else A - (B + C)) := by show _ = _; rw [HF.out, hA, hB, hC]
  clear HF
  go_enter Try.func106, Try.ntmps106
  go_wp2_with fail
  all_goals
    go_ret
    exact ⟨ret_int (by rw [HF2.out]; split <;> omega), ((Below.refl _ _).alloc (Nat.le_refl _) _).alloc (by simp) _⟩

set_option maxRecDepth 20000 in
set_option maxHeartbeats 1000000 in
theorem dist_any (s : Sto) (p : Option Addr) (n c : Nat) (t : Tru) (x y : Int) (w : World) (hs : SmallS s) (ht : SmallT t) (hx : 0 ≤ x) (hx' : x ≤ 11) (hy : 0 ≤ y) (hy' : y ≤ 11) :
    Calls Try.prog 111 #[.agg #[.int .i64 s.wide, .int .i64 s.high, .int .i64 s.fall, .int .i64 s.a.lo, .int .i64 s.a.hi, .int .i64 s.b.lo, .int .i64 s.b.hi, .int .i64 s.half.lo, .int .i64 s.half.hi, .int .i64 s.peak.lo, .int .i64 s.peak.hi, .slice p n c], .agg #[.int .i64 t.a, .int .i64 t.b, .int .i64 t.half, .int .i64 t.peak], .int .i64 x, .int .i64 y] w fun e w' => e = .returned (.int .i64 (distS s t x y)) ∧ Below w.heap.size w w' := by
  obtain ⟨m1, m2, m3, m4, m5, m6⟩ := dist_mul hs ht hx hx' hy hy'
  have hw := hs.w2; have hw' := hs.w12
  have HF := hid (dist_eq s t x y)
  clear hs ht
  obtain ⟨A, hA⟩ : ∃ A, (s.wide - 1) * y = A := ⟨_, rfl⟩
  obtain ⟨B, hB⟩ : ∃ A, t.a * (s.wide - 1 - x) = A := ⟨_, rfl⟩
  obtain ⟨C, hC⟩ : ∃ A, t.b * x = A := ⟨_, rfl⟩
  rw [hA] at m1 m2; rw [hB] at m3 m4; rw [hC] at m5 m6
  have HF2 : Hid (distS s t x y = if A - (B + C) < 0 then -(A - (B + C)) else A - (B + C)) := by show _ = _; rw [HF.out, hA, hB, hC]
  clear HF
  go_enter Try.func111, Try.ntmps111
  go_wp2_with fail
  all_goals
    go_ret
    exact ⟨ret_int (by rw [HF2.out]; split <;> omega), ((Below.refl _ _).alloc (Nat.le_refl _) _).alloc (by simp) _⟩
end Go.Proofs.Ytfnefkenheglhaa
