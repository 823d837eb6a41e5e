/- The statements' helpers: a rectangle by a word. No condition. -/
import Derived.Test.YtfnefkenheglhaaLawA
namespace Go.Proofs.Ytfnefkenheglhaa
open Go.RowKit

def boxX (s : Sto) (v : Int) : Rng := ⟨v % s.wide, minI (s.wide - 1) (v % s.wide + v / 256 % 4)⟩
def boxY (s : Sto) (v : Int) : Rng := ⟨v / 16 % s.high, minI (s.high - 1) (v / 16 % s.high + v / 1024 % 4)⟩
theorem box_in {s : Sto} (ok : OkS s) {v : Int} (_hv : 0 ≤ v) : rectB s (boxX s v) (boxY s v) = true := by
  have q1 := ok.w2; have q3 := ok.h1
  have h1 := Int.emod_nonneg v (show s.wide ≠ 0 by omega); have h2 := Int.emod_lt_of_pos v (show 0 < s.wide by omega)
  have h3 := Int.emod_nonneg (v / 16) (show s.high ≠ 0 by omega); have h4 := Int.emod_lt_of_pos (v / 16) (show 0 < s.high by omega)
  rw [rectB, Bool.and_eq_true, Rng.of_iff, Rng.of_iff]
  refine ⟨⟨h1, ?_, ?_⟩, h3, ?_, ?_⟩
  · show v % s.wide ≤ minI (s.wide - 1) (v % s.wide + v / 256 % 4)
    unfold minI; split <;> omega
  · show minI (s.wide - 1) (v % s.wide + v / 256 % 4) ≤ s.wide - 1
    unfold minI; split <;> omega
  · show v / 16 % s.high ≤ minI (s.high - 1) (v / 16 % s.high + v / 1024 % 4)
    unfold minI; split <;> omega
  · show minI (s.high - 1) (v / 16 % s.high + v / 1024 % 4) ≤ s.high - 1
    unfold minI; split <;> omega

set_option maxRecDepth 40000 in
set_option maxHeartbeats 8000000 in
theorem box_any (s : Sto) (p : Option Addr) (n c : Nat) (v : Int) (w : World) (ok : OkS s) (hv : 0 ≤ v) (hv' : v ≤ 65535) :
    Calls Try.prog 37 #[.agg #[.int .i64 s.wide, .int .i64 s.high, .int .i64 s.fall, .int .i64 s.a.lo, .int .i64 s.a.hi, .int .i64 s.b.lo, .int .i64 s.b.hi, .int .i64 s.half.lo, .int .i64 s.half.hi, .int .i64 s.peak.lo, .int .i64 s.peak.hi, .slice p n c], .int .u16 v] w fun e w' => e = .returned (.agg #[.int .i64 (boxX s v).lo, .int .i64 (boxX s v).hi, .int .i64 (boxY s v).lo, .int .i64 (boxY s v).hi]) ∧ Below w.heap.size w w' := by
  have q1 := ok.w2; have q2 := ok.w12; have q3 := ok.h1; have q4 := ok.h12
  have h1 := Int.emod_nonneg v (show s.wide ≠ 0 by omega); have h2 := Int.emod_lt_of_pos v (show 0 < s.wide by omega)
  have h3 := Int.emod_nonneg (v / 16) (show s.high ≠ 0 by omega); have h4 := Int.emod_lt_of_pos (v / 16) (show 0 < s.high by omega)
  have h5 := Int.emod_nonneg (v / 256) (show (4 : Int) ≠ 0 by omega); have h6 := Int.emod_lt_of_pos (v / 256) (show (0 : Int) < 4 by omega)
  have h7 := Int.emod_nonneg (v / 1024) (show (4 : Int) ≠ 0 by omega); have h8 := Int.emod_lt_of_pos (v / 1024) (show (0 : Int) < 4 by omega)
  have HQ3 := hid (show 0 ≤ v % s.wide ∧ v % s.wide < s.wide ∧ 0 ≤ v / 16 % s.high ∧ v / 16 % s.high < s.high ∧ 0 ≤ v / 256 % 4 ∧ v / 256 % 4 < 4 ∧ 0 ≤ v / 1024 % 4 ∧ v / 1024 % 4 < 4 from ⟨h1, h2, h3, h4, h5, h6, h7, h8⟩)
  have HQ : Hid (v.tmod s.wide = v % s.wide ∧ IntKind.i64.wrap (v % s.wide) = v % s.wide ∧ v.tdiv 16 = v / 16 ∧ (v / 16).tmod s.high = v / 16 % s.high ∧ IntKind.i64.wrap (v / 16 % s.high) = v / 16 % s.high ∧ (IntKind.i64.wrap (v / 16) = v / 16 ∧ ¬ s.wide = 0 ∧ ¬ s.high = 0)) :=
    ⟨Int.tmod_eq_emod_of_nonneg hv, IntWalk.i64_in _ (by omega), Int.tdiv_eq_ediv_of_nonneg hv, Int.tmod_eq_emod_of_nonneg (by omega), IntWalk.i64_in _ (by omega), IntWalk.i64_in _ (by omega), by omega, by omega⟩
  have HQ2 : Hid (v.tdiv 256 = v / 256 ∧ (v / 256).tmod 4 = v / 256 % 4 ∧ IntKind.i64.wrap (v / 256 % 4) = v / 256 % 4 ∧ v.tdiv 1024 = v / 1024 ∧ (v / 1024).tmod 4 = v / 1024 % 4 ∧ IntKind.i64.wrap (v / 1024 % 4) = v / 1024 % 4 ∧ IntKind.i64.wrap (v / 256) = v / 256 ∧ IntKind.i64.wrap (v / 1024) = v / 1024) :=
    ⟨Int.tdiv_eq_ediv_of_nonneg hv, Int.tmod_eq_emod_of_nonneg (by omega), IntWalk.i64_in _ (by omega), Int.tdiv_eq_ediv_of_nonneg hv, Int.tmod_eq_emod_of_nonneg (by omega), IntWalk.i64_in _ (by omega), IntWalk.i64_in _ (by omega), IntWalk.i64_in _ (by omega)⟩
  clear h1 h2 h3 h4 h5 h6 h7 h8 q1 q2 q3 q4
  obtain ⟨W0, hW0⟩ : ∃ V, (w.alloc (.cells #[.int .i64 s.wide, .int .i64 s.high, .int .i64 s.fall, .int .i64 s.a.lo, .int .i64 s.a.hi, .int .i64 s.b.lo, .int .i64 s.b.hi, .int .i64 s.half.lo, .int .i64 s.half.hi, .int .i64 s.peak.lo, .int .i64 s.peak.hi, .slice p n c] 26)).alloc (.cells #[.int .i64 0, .int .i64 0, .int .i64 0, .int .i64 0] 64) = V := ⟨_, rfl⟩
  have HB0 : Hid (Boxed1 w #[.int .i64 s.wide, .int .i64 s.high, .int .i64 s.fall, .int .i64 s.a.lo, .int .i64 s.a.hi, .int .i64 s.b.lo, .int .i64 s.b.hi, .int .i64 s.half.lo, .int .i64 s.half.hi, .int .i64 s.peak.lo, .int .i64 s.peak.hi, .slice p n c] 26 W0.drew) := by show Boxed1 _ _ _ _; rw [← hW0]; exact ((Boxed1.start _ _ _).alloc _).drew
  have HO : Hid (BoxIs (w.heap.size + 1) #[.int .i64 0, .int .i64 0, .int .i64 0, .int .i64 0] W0.drew) := by
    show BoxIs _ _ _
    have h := BoxIs.start (w.alloc (.cells #[.int .i64 s.wide, .int .i64 s.high, .int .i64 s.fall, .int .i64 s.a.lo, .int .i64 s.a.hi, .int .i64 s.b.lo, .int .i64 s.b.hi, .int .i64 s.half.lo, .int .i64 s.half.hi, .int .i64 s.peak.lo, .int .i64 s.peak.hi, .slice p n c] 26)) #[.int .i64 0, .int .i64 0, .int .i64 0, .int .i64 0] 64
    rw [World.size_alloc, hW0] at h; exact h.below (Below.refl _ _).drew
  go_enter Try.func37, Try.ntmps37
  go_upto_region 2 with fail
  clear hW0
  refine wp_region_held_drew (S := fun V => Boxed1 w #[.int .i64 s.wide, .int .i64 s.high, .int .i64 s.fall, .int .i64 s.a.lo, .int .i64 s.a.hi, .int .i64 s.b.lo, .int .i64 s.b.hi, .int .i64 s.half.lo, .int .i64 s.half.hi, .int .i64 s.peak.lo, .int .i64 s.peak.hi, .slice p n c] 26 V) (by kernel_rfl) (HB0.out) (fun hS => ?_)
  simp only [List.size_toArray, List.length_cons, List.length_nil, Nat.reduceAdd, Array.replicate_succ, Array.replicate_zero, List.push_toArray, List.nil_append, List.cons_append]
  refine tkH (i := 0) (v := ?_) (fun V hV => ?_) ?_
  rotate_left
  · go_simp
    try with_reducible rfl
  try simp only [Act.put, List.getElem_toArray, List.getElem_cons_zero, List.setIfInBounds_toArray, List.set_cons_zero, List.set_cons_succ]
  refine tkH (i := 1) (v := ?_) (fun V hV => ?_) ?_
  rotate_left
  · go_simp
    try with_reducible rfl
  try simp only [Act.put, List.getElem_toArray, List.getElem_cons_zero, List.getElem_cons_succ, List.setIfInBounds_toArray, List.set_cons_zero, List.set_cons_succ]
  refine tkH (i := 2) (v := ?_) (fun V hV => ?_) ?_
  rotate_left
  · have e0 := (StoAt.of hV.cell).c0; have e1 := (StoAt.of hV.cell).c1; go_simp
    try with_reducible rfl
  try simp only [Act.put, List.getElem_toArray, List.getElem_cons_zero, List.getElem_cons_succ, List.setIfInBounds_toArray, List.set_cons_zero, List.set_cons_succ]
  refine tkH (i := 3) (v := ?_) (fun V hV => ?_) ?_
  rotate_left
  · have ⟨a0, a1, a2, a3, a4, a5⟩ := HQ.out; go_simp
    try with_reducible rfl
  try simp only [Act.put, List.getElem_toArray, List.getElem_cons_zero, List.getElem_cons_succ, List.setIfInBounds_toArray, List.set_cons_zero, List.set_cons_succ]
  refine tkH (i := 4) (v := ?_) (fun V hV => ?_) ?_
  rotate_left
  · go_simp
    try with_reducible rfl
  try simp only [Act.put, List.getElem_toArray, List.getElem_cons_zero, List.getElem_cons_succ, List.setIfInBounds_toArray, List.set_cons_zero, List.set_cons_succ]
  refine tkH (i := 5) (v := ?_) (fun V hV => ?_) ?_
  rotate_left
  · have ⟨a0, a1, a2, a3, a4, a5⟩ := HQ.out; go_simp
    try with_reducible rfl
  try simp only [Act.put, List.getElem_toArray, List.getElem_cons_zero, List.getElem_cons_succ, List.setIfInBounds_toArray, List.set_cons_zero, List.set_cons_succ]
  refine tkH (i := 6) (v := ?_) (fun V hV => ?_) ?_
  rotate_left
  · go_simp
    try with_reducible rfl
  try simp only [Act.put, List.getElem_toArray, List.getElem_cons_zero, List.getElem_cons_succ, List.setIfInBounds_toArray, List.set_cons_zero, List.set_cons_succ]
  refine tkH (i := 7) (v := ?_) (fun V hV => ?_) ?_
  rotate_left
  · have e0 := (StoAt.of hV.cell).c0; have e1 := (StoAt.of hV.cell).c1; go_simp
    try with_reducible rfl
  try simp only [Act.put, List.getElem_toArray, List.getElem_cons_zero, List.getElem_cons_succ, List.setIfInBounds_toArray, List.set_cons_zero, List.set_cons_succ]
  refine tkH (i := 8) (v := ?_) (fun V hV => ?_) ?_
  rotate_left
  · have ⟨a0, a1, a2, a3, a4, a5⟩ := HQ.out; go_simp
    try with_reducible rfl
  try simp only [Act.put, List.getElem_toArray, List.getElem_cons_zero, List.getElem_cons_succ, List.setIfInBounds_toArray, List.set_cons_zero, List.set_cons_succ]
  refine tkH (i := 9) (v := ?_) (fun V hV => ?_) ?_
  rotate_left
  · go_simp
    try with_reducible rfl
  try simp only [Act.put, List.getElem_toArray, List.getElem_cons_zero, List.getElem_cons_succ, List.setIfInBounds_toArray, List.set_cons_zero, List.set_cons_succ]
  refine tkH (i := 10) (v := ?_) (fun V hV => ?_) ?_
  rotate_left
  · go_simp
    try with_reducible rfl
  try simp only [Act.put, List.getElem_toArray, List.getElem_cons_zero, List.getElem_cons_succ, List.setIfInBounds_toArray, List.set_cons_zero, List.set_cons_succ]
  refine wpAnyH_done (by kernel_rfl) ?_ _
  have HB1 := hid hS
  clear hS HB0
  generalize W0.drew = W9 at HB1 HO ⊢
  have e0 := (StoAt.of HB1.out.cell).c0; have e1 := (StoAt.of HB1.out.cell).c1
  have k0 := (HO.out.2 0 (.int .i64 0) rfl).1; have f0 := (HO.out.2 0 (.int .i64 0) rfl).2
  have k1 := (HO.out.2 1 (.int .i64 0) rfl).1; have f1 := (HO.out.2 1 (.int .i64 0) rfl).2
  have k2 := (HO.out.2 2 (.int .i64 0) rfl).1; have f2 := (HO.out.2 2 (.int .i64 0) rfl).2
  have k3 := (HO.out.2 3 (.int .i64 0) rfl).1; have f3 := (HO.out.2 3 (.int .i64 0) rfl).2
  obtain ⟨a0, a1, a2, a3, a4, a5⟩ := HQ.out
  obtain ⟨b0, b1, b2, b3, b4, b5, b6, b7⟩ := HQ2.out
  obtain ⟨x1, hx1⟩ : ∃ x, v % s.wide = x := ⟨_, rfl⟩
  obtain ⟨y1, hy1⟩ : ∃ x, v / 16 % s.high = x := ⟨_, rfl⟩
  have HBX : Hid (boxX s v = ⟨x1, minI (s.wide - 1) (x1 + v / 256 % 4)⟩) := by show _ = _; rw [boxX, hx1]
  have HBY : Hid (boxY s v = ⟨y1, minI (s.high - 1) (y1 + v / 1024 % 4)⟩) := by show _ = _; rw [boxY, hy1]
  have hq := HQ3.out
  rw [hx1, hy1] at hq
  obtain ⟨h1, h2, h3, h4, h5, h6, h7, h8⟩ := hq
  skip
  rw [hx1, hy1]
  rw [hx1] at a1
  rw [hy1] at a4
  clear hx1 hy1 a0 a1 a2 a3 a4 a5
  have hw1 := ok.w2; have hw2 := ok.w12; have hh1 := ok.h1; have hh2 := ok.h12
  clear ok
  by_cases g1 : x1 + v / 256 % 4 < s.wide - 1
  · by_cases g2 : y1 + v / 1024 % 4 < s.high - 1
    · skip
      have HM1 : Hid (minI (s.wide - 1) (x1 + v / 256 % 4) = (x1 + v / 256 % 4)) := by show _ = _; rw [minI, if_pos g1]
      have HM2 : Hid (minI (s.high - 1) (y1 + v / 1024 % 4) = (y1 + v / 1024 % 4)) := by show _ = _; rw [minI, if_pos g2]
      have HR := hid ((((HO.out.put (j := 0) (.int .i64 x1)).put (j := 1) (.int .i64 (x1 + v / 256 % 4))).put (j := 2) (.int .i64 y1)).put (j := 3) (.int .i64 (y1 + v / 1024 % 4)))
      go_wp2_with fail
      have m0 := (HR.out.2 0 (.int .i64 x1) rfl).1
      have m1 := (HR.out.2 1 (.int .i64 (x1 + v / 256 % 4)) rfl).1
      have m2 := (HR.out.2 2 (.int .i64 y1) rfl).1
      have m3 := (HR.out.2 3 (.int .i64 (y1 + v / 1024 % 4)) rfl).1
      refine bodyPost_ret (v := .agg #[.int .i64 x1, .int .i64 (x1 + v / 256 % 4), .int .i64 y1, .int .i64 (y1 + v / 1024 % 4)]) (by simp [results, Try.f37, go_sem, m0, m1, m2, m3]) rfl ?_
      exact ⟨by rw [HBX.out, HBY.out, HM1.out, HM2.out], ((((HB1.out.below.setCell (p := ⟨w.heap.size + 1, 0, none⟩) (by show w.heap.size ≤ w.heap.size + 1; omega) (.int .i64 x1)).setCell (p := ⟨w.heap.size + 1, 1, none⟩) (by show w.heap.size ≤ w.heap.size + 1; omega) (.int .i64 (x1 + v / 256 % 4))).setCell (p := ⟨w.heap.size + 1, 2, none⟩) (by show w.heap.size ≤ w.heap.size + 1; omega) (.int .i64 y1)).setCell (p := ⟨w.heap.size + 1, 3, none⟩) (by show w.heap.size ≤ w.heap.size + 1; omega) (.int .i64 (y1 + v / 1024 % 4)))⟩
    · skip
      have HM1 : Hid (minI (s.wide - 1) (x1 + v / 256 % 4) = (x1 + v / 256 % 4)) := by show _ = _; rw [minI, if_pos g1]
      have HM2 : Hid (minI (s.high - 1) (y1 + v / 1024 % 4) = (s.high - 1)) := by show _ = _; rw [minI, if_neg g2]
      have HR := hid ((((HO.out.put (j := 0) (.int .i64 x1)).put (j := 1) (.int .i64 (x1 + v / 256 % 4))).put (j := 2) (.int .i64 y1)).put (j := 3) (.int .i64 (s.high - 1)))
      go_wp2_with fail
      have m0 := (HR.out.2 0 (.int .i64 x1) rfl).1
      have m1 := (HR.out.2 1 (.int .i64 (x1 + v / 256 % 4)) rfl).1
      have m2 := (HR.out.2 2 (.int .i64 y1) rfl).1
      have m3 := (HR.out.2 3 (.int .i64 (s.high - 1)) rfl).1
      refine bodyPost_ret (v := .agg #[.int .i64 x1, .int .i64 (x1 + v / 256 % 4), .int .i64 y1, .int .i64 (s.high - 1)]) (by simp [results, Try.f37, go_sem, m0, m1, m2, m3]) rfl ?_
      exact ⟨by rw [HBX.out, HBY.out, HM1.out, HM2.out], ((((HB1.out.below.setCell (p := ⟨w.heap.size + 1, 0, none⟩) (by show w.heap.size ≤ w.heap.size + 1; omega) (.int .i64 x1)).setCell (p := ⟨w.heap.size + 1, 1, none⟩) (by show w.heap.size ≤ w.heap.size + 1; omega) (.int .i64 (x1 + v / 256 % 4))).setCell (p := ⟨w.heap.size + 1, 2, none⟩) (by show w.heap.size ≤ w.heap.size + 1; omega) (.int .i64 y1)).setCell (p := ⟨w.heap.size + 1, 3, none⟩) (by show w.heap.size ≤ w.heap.size + 1; omega) (.int .i64 (s.high - 1)))⟩
  · by_cases g2 : y1 + v / 1024 % 4 < s.high - 1
    · skip
      have HM1 : Hid (minI (s.wide - 1) (x1 + v / 256 % 4) = (s.wide - 1)) := by show _ = _; rw [minI, if_neg g1]
      have HM2 : Hid (minI (s.high - 1) (y1 + v / 1024 % 4) = (y1 + v / 1024 % 4)) := by show _ = _; rw [minI, if_pos g2]
      have HR := hid ((((HO.out.put (j := 0) (.int .i64 x1)).put (j := 1) (.int .i64 (s.wide - 1))).put (j := 2) (.int .i64 y1)).put (j := 3) (.int .i64 (y1 + v / 1024 % 4)))
      go_wp2_with fail
      have m0 := (HR.out.2 0 (.int .i64 x1) rfl).1
      have m1 := (HR.out.2 1 (.int .i64 (s.wide - 1)) rfl).1
      have m2 := (HR.out.2 2 (.int .i64 y1) rfl).1
      have m3 := (HR.out.2 3 (.int .i64 (y1 + v / 1024 % 4)) rfl).1
      refine bodyPost_ret (v := .agg #[.int .i64 x1, .int .i64 (s.wide - 1), .int .i64 y1, .int .i64 (y1 + v / 1024 % 4)]) (by simp [results, Try.f37, go_sem, m0, m1, m2, m3]) rfl ?_
      exact ⟨by rw [HBX.out, HBY.out, HM1.out, HM2.out], ((((HB1.out.below.setCell (p := ⟨w.heap.size + 1, 0, none⟩) (by show w.heap.size ≤ w.heap.size + 1; omega) (.int .i64 x1)).setCell (p := ⟨w.heap.size + 1, 1, none⟩) (by show w.heap.size ≤ w.heap.size + 1; omega) (.int .i64 (s.wide - 1))).setCell (p := ⟨w.heap.size + 1, 2, none⟩) (by show w.heap.size ≤ w.heap.size + 1; omega) (.int .i64 y1)).setCell (p := ⟨w.heap.size + 1, 3, none⟩) (by show w.heap.size ≤ w.heap.size + 1; omega) (.int .i64 (y1 + v / 1024 % 4)))⟩
    · skip
      have HM1 : Hid (minI (s.wide - 1) (x1 + v / 256 % 4) = (s.wide - 1)) := by show _ = _; rw [minI, if_neg g1]
      have HM2 : Hid (minI (s.high - 1) (y1 + v / 1024 % 4) = (s.high - 1)) := by show _ = _; rw [minI, if_neg g2]
      have HR := hid ((((HO.out.put (j := 0) (.int .i64 x1)).put (j := 1) (.int .i64 (s.wide - 1))).put (j := 2) (.int .i64 y1)).put (j := 3) (.int .i64 (s.high - 1)))
      go_wp2_with fail
      have m0 := (HR.out.2 0 (.int .i64 x1) rfl).1
      have m1 := (HR.out.2 1 (.int .i64 (s.wide - 1)) rfl).1
      have m2 := (HR.out.2 2 (.int .i64 y1) rfl).1
      have m3 := (HR.out.2 3 (.int .i64 (s.high - 1)) rfl).1
      refine bodyPost_ret (v := .agg #[.int .i64 x1, .int .i64 (s.wide - 1), .int .i64 y1, .int .i64 (s.high - 1)]) (by simp [results, Try.f37, go_sem, m0, m1, m2, m3]) rfl ?_
      exact ⟨by rw [HBX.out, HBY.out, HM1.out, HM2.out], ((((HB1.out.below.setCell (p := ⟨w.heap.size + 1, 0, none⟩) (by show w.heap.size ≤ w.heap.size + 1; omega) (.int .i64 x1)).setCell (p := ⟨w.heap.size + 1, 1, none⟩) (by show w.heap.size ≤ w.heap.size + 1; omega) (.int .i64 (s.wide - 1))).setCell (p := ⟨w.heap.size + 1, 2, none⟩) (by show w.heap.size ≤ w.heap.size + 1; omega) (.int .i64 y1)).setCell (p := ⟨w.heap.size + 1, 3, none⟩) (by show w.heap.size ≤ w.heap.size + 1; omega) (.int .i64 (s.high - 1)))⟩
end Go.Proofs.Ytfnefkenheglhaa
