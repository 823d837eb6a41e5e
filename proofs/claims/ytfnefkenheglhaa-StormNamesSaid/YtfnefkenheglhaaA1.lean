/- The smallest functions of package storm and of its reference: ranges, rectangles. No condition. -/
import Derived.Test.YtfnefkenheglhaaBas
namespace Go.Proofs.Ytfnefkenheglhaa
open Go.RowKit

theorem in_any (n lo hi : Int) (w : World) :
    Calls Try.prog 24 #[.int .i64 n, .int .i64 lo, .int .i64 hi] w fun e w' => e = .returned (.bool (inB n lo hi)) ∧ w' = w := by
  have HF := hid (show inB n lo hi = (decide (lo ≤ n) && decide (n ≤ hi)) from rfl)
  by_cases h1 : lo ≤ n
  · go_enter Try.func24, Try.ntmps24
    go_wp2
    go_ret
    exact ⟨ret_bool (by rw [HF.out]; simp [h1]), rfl⟩
  · go_enter Try.func24, Try.ntmps24
    go_wp2
    go_ret
    exact ⟨ret_bool (by rw [HF.out]; simp; omega), rfl⟩

theorem within_any (n lo hi : Int) (w : World) :
    Calls Try.prog 74 #[.int .i64 n, .int .i64 lo, .int .i64 hi] w fun e w' => e = .returned (.bool (inB n lo hi)) ∧ w' = w := by
  have HF := hid (show inB n lo hi = (decide (lo ≤ n) && decide (n ≤ hi)) from rfl)
  by_cases h1 : lo ≤ n
  · go_enter Try.func74, Try.ntmps74
    go_wp2
    go_ret
    exact ⟨ret_bool (by rw [HF.out]; simp [h1]), rfl⟩
  · go_enter Try.func74, Try.ntmps74
    go_wp2
    go_ret
    exact ⟨ret_bool (by rw [HF.out]; simp; omega), rfl⟩

set_option maxHeartbeats 400000 in
theorem withinR_any (r : Rng) (lo hi : Int) (w : World) :
    Calls Try.prog 103 #[.agg #[.int .i64 r.lo, .int .i64 r.hi], .int .i64 lo, .int .i64 hi] w fun e w' => e = .returned (.bool (r.of lo hi)) ∧ Below w.heap.size w w' := by
  have HF := hid (show r.of lo hi = (decide (lo ≤ r.lo) && (decide (r.lo ≤ r.hi) && decide (r.hi ≤ hi))) from rfl)
  by_cases h1 : lo ≤ r.lo
  · by_cases h2 : r.lo ≤ r.hi
    · go_enter Try.func103, Try.ntmps103
      go_wp2
      go_ret
      exact ⟨ret_bool (by rw [HF.out]; simp [h1, h2]), (Below.refl _ _).alloc (Nat.le_refl _) _⟩
    · go_enter Try.func103, Try.ntmps103
      go_wp2
      go_ret
      exact ⟨ret_bool (by rw [HF.out]; simp; omega), (Below.refl _ _).alloc (Nat.le_refl _) _⟩
  · go_enter Try.func103, Try.ntmps103
    go_wp2
    go_ret
    exact ⟨ret_bool (by rw [HF.out]; simp; omega), (Below.refl _ _).alloc (Nat.le_refl _) _⟩

set_option maxHeartbeats 400000 in
theorem of_any (r : Rng) (lo hi : Int) (w : World) :
    Calls Try.prog 100 #[.agg #[.int .i64 r.lo, .int .i64 r.hi], .int .i64 lo, .int .i64 hi] w fun e w' => e = .returned (.bool (r.of lo hi)) ∧ Below w.heap.size w w' := by
  have HF := hid (show r.of lo hi = (decide (lo ≤ r.lo) && (decide (r.lo ≤ r.hi) && decide (r.hi ≤ hi))) from rfl)
  by_cases h1 : lo ≤ r.lo
  · by_cases h2 : r.lo ≤ r.hi
    · go_enter Try.func100, Try.ntmps100
      go_wp2
      go_ret
      exact ⟨ret_bool (by rw [HF.out]; simp [h1, h2]), (Below.refl _ _).alloc (Nat.le_refl _) _⟩
    · go_enter Try.func100, Try.ntmps100
      go_wp2
      go_ret
      exact ⟨ret_bool (by rw [HF.out]; simp; omega), (Below.refl _ _).alloc (Nat.le_refl _) _⟩
  · go_enter Try.func100, Try.ntmps100
    go_wp2
    go_ret
    exact ⟨ret_bool (by rw [HF.out]; simp; omega), (Below.refl _ _).alloc (Nat.le_refl _) _⟩

theorem count_any (r : Rng) (w : World) (h1 : -1000000 ≤ r.lo) (h2 : r.lo ≤ 1000000) (h3 : -1000000 ≤ r.hi) (h4 : r.hi ≤ 1000000) :
    Calls Try.prog 48 #[.agg #[.int .i64 r.lo, .int .i64 r.hi]] w fun e w' => e = .returned (.int .i64 r.cnt) ∧ Below w.heap.size w w' := by
  go_enter Try.func48, Try.ntmps48
  go_wp2
  go_ret
  exact ⟨rfl, (Below.refl _ _).alloc (Nat.le_refl _) _⟩

theorem rsize_any (r : Rng) (w : World) (h1 : -1000000 ≤ r.lo) (h2 : r.lo ≤ 1000000) (h3 : -1000000 ≤ r.hi) (h4 : r.hi ≤ 1000000) :
    Calls Try.prog 114 #[.agg #[.int .i64 r.lo, .int .i64 r.hi]] w fun e w' => e = .returned (.int .i64 r.cnt) ∧ Below w.heap.size w w' := by
  go_enter Try.func114, Try.ntmps114
  go_wp2
  go_ret
  exact ⟨rfl, (Below.refl _ _).alloc (Nat.le_refl _) _⟩

theorem has_any (r : Rng) (n : Int) (w : World) : Calls Try.prog 97 #[.agg #[.int .i64 r.lo, .int .i64 r.hi], .int .i64 n] w fun e w' => e = .returned (.bool (inB n r.lo r.hi)) ∧ Below w.heap.size w w' := by
  go_enter Try.func97, Try.ntmps97
  go_wp2_with (go_at_call 74; refine (within_any _ _ _ _).mono ?_; rintro e w' ⟨rfl, rfl⟩)
  go_ret
  exact ⟨rfl, (Below.refl _ _).alloc (Nat.le_refl _) _⟩

set_option maxHeartbeats 1000000 in
theorem isRect_any (s : Sto) (p : Option Addr) (n c : Nat) (x y : Rng) (w : World) (hw : -1000000 ≤ s.wide) (hw' : s.wide ≤ 1000000) (hh : -1000000 ≤ s.high) (hh' : s.high ≤ 1000000) :
    Calls Try.prog 65 #[.agg #[.int .i64 s.wide, .int .i64 s.high, .int .i64 s.fall, .int .i64 s.a.lo, .int .i64 s.a.hi, .int .i64 s.b.lo, .int .i64 s.b.hi, .int .i64 s.half.lo, .int .i64 s.half.hi, .int .i64 s.peak.lo, .int .i64 s.peak.hi, .slice p n c], .agg #[.int .i64 x.lo, .int .i64 x.hi, .int .i64 y.lo, .int .i64 y.hi]] w fun e w' => e = .returned (.bool (rectB s x y)) ∧ Below w.heap.size w w' := by
  have HF := hid (show rectB s x y = (x.of 0 (s.wide - 1) && y.of 0 (s.high - 1)) from rfl)
  go_enter Try.func65, Try.ntmps65
  go_wp2_with fail
  refine (withinR_any _ _ _ _).mono ?_
  rintro e w1 ⟨rfl, hb⟩
  have HB : Boxed2 w #[.int .i64 s.wide, .int .i64 s.high, .int .i64 s.fall, .int .i64 s.a.lo, .int .i64 s.a.hi, .int .i64 s.b.lo, .int .i64 s.b.hi, .int .i64 s.half.lo, .int .i64 s.half.hi, .int .i64 s.peak.lo, .int .i64 s.peak.hi, .slice p n c] 26 #[.int .i64 x.lo, .int .i64 x.hi, .int .i64 y.lo, .int .i64 y.hi] 64 w1 := hb.mono (by simp)
  have k1 := (StoAt.of HB.cell1).c1
  have k2 := (RecAt.of HB.cell2).c2
  have k3 := (RecAt.of HB.cell2).c3
  clear hb
  cases h1 : x.of 0 (s.wide - 1)
  · go_wp2_with fail
    go_ret
    exact ⟨ret_bool (by rw [HF.out, h1]; rfl), HB.below⟩
  · go_wp2_with fail
    refine (withinR_any _ _ _ _).mono ?_
    rintro e w2 ⟨rfl, hb⟩
    go_wp2_with fail
    go_ret
    exact ⟨ret_bool (by rw [HF.out, h1]; rfl), (HB.step1 hb).below⟩

set_option maxHeartbeats 1000000 in
theorem rect_any (s : Sto) (p : Option Addr) (n c : Nat) (x y : Rng) (w : World) (hw : -1000000 ≤ s.wide) (hw' : s.wide ≤ 1000000) (hh : -1000000 ≤ s.high) (hh' : s.high ≤ 1000000) :
    Calls Try.prog 92 #[.agg #[.int .i64 s.wide, .int .i64 s.high, .int .i64 s.fall, .int .i64 s.a.lo, .int .i64 s.a.hi, .int .i64 s.b.lo, .int .i64 s.b.hi, .int .i64 s.half.lo, .int .i64 s.half.hi, .int .i64 s.peak.lo, .int .i64 s.peak.hi, .slice p n c], .agg #[.int .i64 x.lo, .int .i64 x.hi, .int .i64 y.lo, .int .i64 y.hi]] w fun e w' => e = .returned (.bool (rectB s x y)) ∧ Below w.heap.size w w' := by
  have HF := hid (show rectB s x y = (x.of 0 (s.wide - 1) && y.of 0 (s.high - 1)) from rfl)
  go_enter Try.func92, Try.ntmps92
  go_wp2_with fail
  refine (of_any _ _ _ _).mono ?_
  rintro e w1 ⟨rfl, hb⟩
  have HB : Boxed2 w #[.int .i64 s.wide, .int .i64 s.high, .int .i64 s.fall, .int .i64 s.a.lo, .int .i64 s.a.hi, .int .i64 s.b.lo, .int .i64 s.b.hi, .int .i64 s.half.lo, .int .i64 s.half.hi, .int .i64 s.peak.lo, .int .i64 s.peak.hi, .slice p n c] 35 #[.int .i64 x.lo, .int .i64 x.hi, .int .i64 y.lo, .int .i64 y.hi] 70 w1 := hb.mono (by simp)
  have k1 := (StoAt.of HB.cell1).c1
  have k2 := (RecAt.of HB.cell2).c2
  have k3 := (RecAt.of HB.cell2).c3
  clear hb
  cases h1 : x.of 0 (s.wide - 1)
  · go_wp2_with fail
    go_ret
    exact ⟨ret_bool (by rw [HF.out, h1]; rfl), HB.below⟩
  · go_wp2_with fail
    refine (of_any _ _ _ _).mono ?_
    rintro e w2 ⟨rfl, hb⟩
    go_wp2_with fail
    go_ret
    exact ⟨ret_bool (by rw [HF.out, h1]; rfl), (HB.step1 hb).below⟩


set_option maxHeartbeats 1000000 in
theorem isCard_any (s : Sto) (p : Option Addr) (n c : Nat) (k : Crd) (w : World) (hw : -1000000 ≤ s.wide) (hw' : s.wide ≤ 1000000) (hh : -1000000 ≤ s.high) (hh' : s.high ≤ 1000000) :
    Calls Try.prog 104 #[.agg #[.int .i64 s.wide, .int .i64 s.high, .int .i64 s.fall, .int .i64 s.a.lo, .int .i64 s.a.hi, .int .i64 s.b.lo, .int .i64 s.b.hi, .int .i64 s.half.lo, .int .i64 s.half.hi, .int .i64 s.peak.lo, .int .i64 s.peak.hi, .slice p n c], .agg #[.int .i64 k.x.lo, .int .i64 k.x.hi, .int .i64 k.y.lo, .int .i64 k.y.hi, .bool k.hail, .int .i64 k.size.lo, .int .i64 k.size.hi]] w fun e w' => e = .returned (.bool (cardB s k)) ∧ Below w.heap.size w w' := by
  have HF := hid (show cardB s k = (rectB s k.x k.y && (k.size.of 0 9 && (k.hail || (k.size.lo == 0 && k.size.hi == 0)))) from rfl)
  go_enter Try.func104, Try.ntmps104
  go_wp2_with fail
  refine (isRect_any _ _ _ _ _ _ _ hw hw' hh hh').mono ?_
  rintro e w1 ⟨rfl, hb⟩
  have HB : Boxed2 w #[.int .i64 s.wide, .int .i64 s.high, .int .i64 s.fall, .int .i64 s.a.lo, .int .i64 s.a.hi, .int .i64 s.b.lo, .int .i64 s.b.hi, .int .i64 s.half.lo, .int .i64 s.half.hi, .int .i64 s.peak.lo, .int .i64 s.peak.hi, .slice p n c] 26 #[.int .i64 k.x.lo, .int .i64 k.x.hi, .int .i64 k.y.lo, .int .i64 k.y.hi, .bool k.hail, .int .i64 k.size.lo, .int .i64 k.size.hi] 61 w1 := hb.mono (by simp)
  have k5 := (CrdAt.of HB.cell2).c5
  have k6 := (CrdAt.of HB.cell2).c6
  clear hb
  cases h1 : rectB s k.x k.y
  · go_wp2_with fail
    go_ret
    exact ⟨ret_bool (by rw [HF.out, h1]; rfl), HB.below⟩
  · go_wp2_with fail
    refine (withinR_any _ _ _ _).mono ?_
    rintro e w2 ⟨rfl, hb⟩
    have HB2 := HB.step1 hb
    clear k5 k6
    have k4 := (CrdAt.of HB2.cell2).c4
    have k5 := (CrdAt.of HB2.cell2).c5
    have k6 := (CrdAt.of HB2.cell2).c6
    clear hb
    cases h2 : k.size.of 0 9
    · go_wp2_with fail
      go_ret
      exact ⟨ret_bool (by rw [HF.out, h1, h2]; rfl), HB2.below⟩
    · cases h3 : k.hail
      · rw [h3] at k4
        go_wp2_with fail
        all_goals
          go_ret
          exact ⟨ret_bool (by rw [HF.out, h1, h2, h3]; simp [*]), HB2.below⟩
      · rw [h3] at k4
        go_wp2_with fail
        go_ret
        exact ⟨ret_bool (by rw [HF.out, h1, h2, h3]; rfl), HB2.below⟩
set_option maxHeartbeats 1000000 in
theorem card_any (s : Sto) (p : Option Addr) (n c : Nat) (k : Crd) (w : World) (hw : -1000000 ≤ s.wide) (hw' : s.wide ≤ 1000000) (hh : -1000000 ≤ s.high) (hh' : s.high ≤ 1000000) :
    Calls Try.prog 99 #[.agg #[.int .i64 s.wide, .int .i64 s.high, .int .i64 s.fall, .int .i64 s.a.lo, .int .i64 s.a.hi, .int .i64 s.b.lo, .int .i64 s.b.hi, .int .i64 s.half.lo, .int .i64 s.half.hi, .int .i64 s.peak.lo, .int .i64 s.peak.hi, .slice p n c], .agg #[.int .i64 k.x.lo, .int .i64 k.x.hi, .int .i64 k.y.lo, .int .i64 k.y.hi, .bool k.hail, .int .i64 k.size.lo, .int .i64 k.size.hi]] w fun e w' => e = .returned (.bool (cardB s k)) ∧ Below w.heap.size w w' := by
  have HF := hid (show cardB s k = (rectB s k.x k.y && (k.size.of 0 9 && (k.hail || (k.size.lo == 0 && k.size.hi == 0)))) from rfl)
  go_enter Try.func99, Try.ntmps99
  go_wp2_with fail
  refine (rect_any _ _ _ _ _ _ _ hw hw' hh hh').mono ?_
  rintro e w1 ⟨rfl, hb⟩
  have HB : Boxed2 w #[.int .i64 s.wide, .int .i64 s.high, .int .i64 s.fall, .int .i64 s.a.lo, .int .i64 s.a.hi, .int .i64 s.b.lo, .int .i64 s.b.hi, .int .i64 s.half.lo, .int .i64 s.half.hi, .int .i64 s.peak.lo, .int .i64 s.peak.hi, .slice p n c] 35 #[.int .i64 k.x.lo, .int .i64 k.x.hi, .int .i64 k.y.lo, .int .i64 k.y.hi, .bool k.hail, .int .i64 k.size.lo, .int .i64 k.size.hi] 119 w1 := hb.mono (by simp)
  have k5 := (CrdAt.of HB.cell2).c5
  have k6 := (CrdAt.of HB.cell2).c6
  clear hb
  cases h1 : rectB s k.x k.y
  · go_wp2_with fail
    go_ret
    exact ⟨ret_bool (by rw [HF.out, h1]; rfl), HB.below⟩
  · go_wp2_with fail
    refine (of_any _ _ _ _).mono ?_
    rintro e w2 ⟨rfl, hb⟩
    have HB2 := HB.step1 hb
    clear k5 k6
    have k4 := (CrdAt.of HB2.cell2).c4
    have k5 := (CrdAt.of HB2.cell2).c5
    have k6 := (CrdAt.of HB2.cell2).c6
    clear hb
    cases h2 : k.size.of 0 9
    · go_wp2_with fail
      go_ret
      exact ⟨ret_bool (by rw [HF.out, h1, h2]; rfl), HB2.below⟩
    · cases h3 : k.hail
      · rw [h3] at k4
        go_wp2_with fail
        all_goals
          go_ret
          exact ⟨ret_bool (by rw [HF.out, h1, h2, h3]; simp [*]), HB2.below⟩
      · rw [h3] at k4
        go_wp2_with fail
        go_ret
        exact ⟨ret_bool (by rw [HF.out, h1, h2, h3]; rfl), HB2.below⟩
end Go.Proofs.Ytfnefkenheglhaa
