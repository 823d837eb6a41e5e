/- The reference: the truth with a number. No condition. -/
import Derived.Test.YtfnefkenheglhaaA7
import Derived.Test.YtfnefkenheglhaaBox
namespace Go.Proofs.Ytfnefkenheglhaa
open Go.RowKit

theorem below_put4 {B b : Nat} {w W : World} (h : Below B w W) (hb : B ≤ b) (x0 x1 x2 x3 : Value) : Below B w ((((W.setCell ⟨b, 0, none⟩ x0).setCell ⟨b, 1, none⟩ x1).setCell ⟨b, 2, none⟩ x2).setCell ⟨b, 3, none⟩ x3) :=
  (((h.setCell (p := ⟨b, 0, none⟩) hb x0).setCell (p := ⟨b, 1, none⟩) hb x1).setCell (p := ⟨b, 2, none⟩) hb x2).setCell (p := ⟨b, 3, none⟩) hb x3

set_option maxRecDepth 20000 in
set_option maxHeartbeats 1000000 in
theorem nth_any (s : Sto) (p : Option Addr) (n c : Nat) (m : Int) (w : World) (hr : rangesB s = true) (h12 : s.high ≤ 12) (h0 : 0 ≤ m) (hm : m ≤ 1000000) :
    Calls Try.prog 88 #[.agg #[.int .i64 s.wide, .int .i64 s.high, .int .i64 s.fall, .int .i64 s.a.lo, .int .i64 s.a.hi, .int .i64 s.b.lo, .int .i64 s.b.hi, .int .i64 s.half.lo, .int .i64 s.half.hi, .int .i64 s.peak.lo, .int .i64 s.peak.hi, .slice p n c], .int .i64 m] w fun e w' => e = .returned (.agg #[.int .i64 (nthS s m).a, .int .i64 (nthS s m).b, .int .i64 (nthS s m).half, .int .i64 (nthS s m).peak]) ∧ Below w.heap.size w w' := by
  obtain ⟨a0, a1, b0, b1, d0, d1, p0, p1⟩ := many_bd hr h12
  obtain ⟨x1, x2, x3, x4, x5, x6, x7, x8, x9, x10, x11, x12⟩ := nth_bd hr h12 h0
  obtain ⟨r1, r2, r3, r4, r5, r6, r7, r8, r9, r10, r11, r12, r13, r14, r15, r16⟩ := ranges_bd hr h12
  have Q0 : Hid (((m).tmod s.a.cnt = m % s.a.cnt ∧ (m).tdiv s.a.cnt = m / s.a.cnt) ∧ IntKind.i64.wrap (m % s.a.cnt) = m % s.a.cnt ∧ IntKind.i64.wrap (m / s.a.cnt) = m / s.a.cnt ∧ IntKind.i64.wrap (s.a.lo + m % s.a.cnt) = s.a.lo + m % s.a.cnt ∧ ¬ s.a.cnt = 0) :=
    ⟨⟨Int.tmod_eq_emod_of_nonneg (by omega), Int.tdiv_eq_ediv_of_nonneg (by omega)⟩, IntWalk.i64_in _ (by omega), IntWalk.i64_in _ (by omega), IntWalk.i64_in _ (by omega), by omega⟩
  have Q1 : Hid (((m / s.a.cnt).tmod s.b.cnt = m / s.a.cnt % s.b.cnt ∧ (m / s.a.cnt).tdiv s.b.cnt = m / s.a.cnt / s.b.cnt) ∧ IntKind.i64.wrap (m / s.a.cnt % s.b.cnt) = m / s.a.cnt % s.b.cnt ∧ IntKind.i64.wrap (m / s.a.cnt / s.b.cnt) = m / s.a.cnt / s.b.cnt ∧ IntKind.i64.wrap (s.b.lo + m / s.a.cnt % s.b.cnt) = s.b.lo + m / s.a.cnt % s.b.cnt ∧ ¬ s.b.cnt = 0) :=
    ⟨⟨Int.tmod_eq_emod_of_nonneg (by omega), Int.tdiv_eq_ediv_of_nonneg (by omega)⟩, IntWalk.i64_in _ (by omega), IntWalk.i64_in _ (by omega), IntWalk.i64_in _ (by omega), by omega⟩
  have Q2 : Hid (((m / s.a.cnt / s.b.cnt).tmod s.half.cnt = m / s.a.cnt / s.b.cnt % s.half.cnt ∧ (m / s.a.cnt / s.b.cnt).tdiv s.half.cnt = m / s.a.cnt / s.b.cnt / s.half.cnt) ∧ IntKind.i64.wrap (m / s.a.cnt / s.b.cnt % s.half.cnt) = m / s.a.cnt / s.b.cnt % s.half.cnt ∧ IntKind.i64.wrap (m / s.a.cnt / s.b.cnt / s.half.cnt) = m / s.a.cnt / s.b.cnt / s.half.cnt ∧ IntKind.i64.wrap (s.half.lo + m / s.a.cnt / s.b.cnt % s.half.cnt) = s.half.lo + m / s.a.cnt / s.b.cnt % s.half.cnt ∧ ¬ s.half.cnt = 0) :=
    ⟨⟨Int.tmod_eq_emod_of_nonneg (by omega), Int.tdiv_eq_ediv_of_nonneg (by omega)⟩, IntWalk.i64_in _ (by omega), IntWalk.i64_in _ (by omega), IntWalk.i64_in _ (by omega), by omega⟩
  clear hr
  obtain ⟨W0, hW0⟩ : ∃ W, ((w.alloc (.cells #[.int .i64 s.wide, .int .i64 s.high, .int .i64 s.fall, .int .i64 s.a.lo, .int .i64 s.a.hi, .int .i64 s.b.lo, .int .i64 s.b.hi, .int .i64 s.half.lo, .int .i64 s.half.hi, .int .i64 s.peak.lo, .int .i64 s.peak.hi, .slice p n c] 26)).alloc (.cells #[.int .i64 0, .int .i64 0, .int .i64 0, .int .i64 0] 92)).alloc (.cells #[.int .i64 0, .int .i64 0, .int .i64 0, .int .i64 0] 92) = W := ⟨_, rfl⟩
  have HB : Boxed1 w #[.int .i64 s.wide, .int .i64 s.high, .int .i64 s.fall, .int .i64 s.a.lo, .int .i64 s.a.hi, .int .i64 s.b.lo, .int .i64 s.b.hi, .int .i64 s.half.lo, .int .i64 s.half.hi, .int .i64 s.peak.lo, .int .i64 s.peak.hi, .slice p n c] 26 W0 := by rw [← hW0]; exact ((Boxed1.start _ _ _).alloc _).alloc _
  have HT4 : Hid (BoxIs (w.heap.size + 1) #[.int .i64 0, .int .i64 0, .int .i64 0, .int .i64 0] W0) := by
    have h := (BoxIs.start (w.alloc (.cells #[.int .i64 s.wide, .int .i64 s.high, .int .i64 s.fall, .int .i64 s.a.lo, .int .i64 s.a.hi, .int .i64 s.b.lo, .int .i64 s.b.hi, .int .i64 s.half.lo, .int .i64 s.half.hi, .int .i64 s.peak.lo, .int .i64 s.peak.hi, .slice p n c] 26)) #[.int .i64 0, .int .i64 0, .int .i64 0, .int .i64 0] 92).below ((Below.refl _ _).alloc (Nat.le_refl _) (.cells #[.int .i64 0, .int .i64 0, .int .i64 0, .int .i64 0] 92))
    rw [World.size_alloc, hW0] at h; exact h
  have HT5 : Hid (BoxIs (w.heap.size + 2) #[.int .i64 0, .int .i64 0, .int .i64 0, .int .i64 0] W0) := by
    have h := BoxIs.start ((w.alloc (.cells #[.int .i64 s.wide, .int .i64 s.high, .int .i64 s.fall, .int .i64 s.a.lo, .int .i64 s.a.hi, .int .i64 s.b.lo, .int .i64 s.b.hi, .int .i64 s.half.lo, .int .i64 s.half.hi, .int .i64 s.peak.lo, .int .i64 s.peak.hi, .slice p n c] 26)).alloc (.cells #[.int .i64 0, .int .i64 0, .int .i64 0, .int .i64 0] 92)) #[.int .i64 0, .int .i64 0, .int .i64 0, .int .i64 0] 92
    rw [World.size_alloc, World.size_alloc, hW0] at h; exact h
  go_enter Try.func88, Try.ntmps88
  go_upto_region 2 with fail
  clear hW0
  refine wp_region_held_drew (S := fun V => Boxed1 w #[.int .i64 s.wide, .int .i64 s.high, .int .i64 s.fall, .int .i64 s.a.lo, .int .i64 s.a.hi, .int .i64 s.b.lo, .int .i64 s.b.hi, .int .i64 s.half.lo, .int .i64 s.half.hi, .int .i64 s.peak.lo, .int .i64 s.peak.hi, .slice p n c] 26 V) (by kernel_rfl) (HB.drew) (fun hS => ?_)
  simp only [List.size_toArray, List.length_cons, List.length_nil, Nat.reduceAdd, Array.replicate_succ, Array.replicate_zero, List.push_toArray, List.nil_append, List.cons_append]
  refine tkH (i := 0) (v := ?_) (fun V hV => ?_) ?_
  rotate_left
  · go_simp
    try with_reducible rfl
  try simp only [Act.put, List.getElem_toArray, List.getElem_cons_zero, List.setIfInBounds_toArray, List.set_cons_zero, List.set_cons_succ]
  refine tkH (i := 1) (v := ?_) (fun V hV => ?_) ?_
  rotate_left
  · go_simp
    try with_reducible rfl
  try simp only [Act.put, List.getElem_toArray, List.getElem_cons_zero, List.getElem_cons_succ, List.setIfInBounds_toArray, List.set_cons_zero, List.set_cons_succ]
  refine tkH (i := 2) (v := ?_) (fun V hV => ?_) ?_
  rotate_left
  · have e0 := (StoAt.of hV.cell).c3; have e1 := (StoAt.of hV.cell).c4; go_simp
    try with_reducible rfl
  try simp only [Act.put, List.getElem_toArray, List.getElem_cons_zero, List.getElem_cons_succ, List.setIfInBounds_toArray, List.set_cons_zero, List.set_cons_succ]
  refine tkH (i := 3) (v := ?_) (fun V hV => ?_) ?_
  rotate_left
  · go_simp
    try with_reducible rfl
  try simp only [Act.put, List.getElem_toArray, List.getElem_cons_zero, List.getElem_cons_succ, List.setIfInBounds_toArray, List.set_cons_zero, List.set_cons_succ]
  refine tkH (i := 4) (v := ?_) (fun V hV => ?_) ?_
  rotate_left
  · go_simp
    try with_reducible rfl
  try simp only [Act.put, List.getElem_toArray, List.getElem_cons_zero, List.getElem_cons_succ, List.setIfInBounds_toArray, List.set_cons_zero, List.set_cons_succ]
  refine tkH (i := 5) (v := ?_) (fun V hV => ?_) ?_
  rotate_left
  · have e0 := (StoAt.of hV.cell).c3; have e1 := (StoAt.of hV.cell).c4; go_simp
    try with_reducible rfl
  try simp only [Act.put, List.getElem_toArray, List.getElem_cons_zero, List.getElem_cons_succ, List.setIfInBounds_toArray, List.set_cons_zero, List.set_cons_succ]
  refine tkH (i := 9) (v := ?_) (fun V hV => ?_) ?_
  rotate_left
  · go_simp
    try with_reducible rfl
  try simp only [Act.put, List.getElem_toArray, List.getElem_cons_zero, List.getElem_cons_succ, List.setIfInBounds_toArray, List.set_cons_zero, List.set_cons_succ]
  refine tkH (i := 10) (v := ?_) (fun V hV => ?_) ?_
  rotate_left
  · go_simp
    try with_reducible rfl
  try simp only [Act.put, List.getElem_toArray, List.getElem_cons_zero, List.getElem_cons_succ, List.setIfInBounds_toArray, List.set_cons_zero, List.set_cons_succ]
  refine tkH (i := 11) (v := ?_) (fun V hV => ?_) ?_
  rotate_left
  · have e0 := (StoAt.of hV.cell).c3; have e1 := (StoAt.of hV.cell).c4; go_simp
    try with_reducible rfl
  try simp only [Act.put, List.getElem_toArray, List.getElem_cons_zero, List.getElem_cons_succ, List.setIfInBounds_toArray, List.set_cons_zero, List.set_cons_succ]
  refine wpAnyH_ready (rs := [6]) (by kernel_rfl) (by simp) ?_
  refine AllReadyH.cons (o := _) rfl (fun K hK => ?_) AllReadyH.nil
  go_simp
  (with_reducible refine (count_any _ _ ‹_› ‹_› ‹_› ‹_›).mono ?_)
  rintro e w06 ⟨rfl, hb⟩
  have HT4 := hid (HT4.out.below ((Below.refl _ _).drew.trans hb))
  have HT5 := hid (HT5.out.below ((Below.refl _ _).drew.trans hb))
  refine hK.out _ _ (hS.step hb) (fun hS => ?_)
  clear hK K
  try simp only [List.setIfInBounds_toArray, List.set_cons_zero, List.set_cons_succ]
  refine tkH (i := 7) (v := ?_) (fun V hV => ?_) ?_
  rotate_left
  · have ⟨⟨q0, q1⟩, q2, q3, q4, q5⟩ := Q0.out; go_simp
    try with_reducible rfl
  try simp only [Act.put, List.getElem_toArray, List.getElem_cons_zero, List.getElem_cons_succ, List.setIfInBounds_toArray, List.set_cons_zero, List.set_cons_succ]
  refine tkH (i := 8) (v := ?_) (fun V hV => ?_) ?_
  rotate_left
  · have ⟨⟨q0, q1⟩, q2, q3, q4, q5⟩ := Q0.out; go_simp
    try with_reducible rfl
  try simp only [Act.put, List.getElem_toArray, List.getElem_cons_zero, List.getElem_cons_succ, List.setIfInBounds_toArray, List.set_cons_zero, List.set_cons_succ]
  refine tkH (i := 14) (v := ?_) (fun V hV => ?_) ?_
  rotate_left
  · go_simp
    try with_reducible rfl
  try simp only [Act.put, List.getElem_toArray, List.getElem_cons_zero, List.getElem_cons_succ, List.setIfInBounds_toArray, List.set_cons_zero, List.set_cons_succ]
  refine wpAnyH_ready (rs := [12]) (by kernel_rfl) (by simp) ?_
  refine AllReadyH.cons (o := _) rfl (fun K hK => ?_) AllReadyH.nil
  go_simp
  (with_reducible refine (count_any _ _ ‹_› ‹_› ‹_› ‹_›).mono ?_)
  rintro e w012 ⟨rfl, hb⟩
  have HT4 := hid (HT4.out.below hb)
  have HT5 := hid (HT5.out.below hb)
  refine hK.out _ _ (hS.step hb) (fun hS => ?_)
  clear hK K
  try simp only [List.setIfInBounds_toArray, List.set_cons_zero, List.set_cons_succ]
  refine tkH (i := 13) (v := ?_) (fun V hV => ?_) ?_
  rotate_left
  · have ⟨⟨q0, q1⟩, q2, q3, q4, q5⟩ := Q0.out; go_simp
    try with_reducible rfl
  try simp only [Act.put, List.getElem_toArray, List.getElem_cons_zero, List.getElem_cons_succ, List.setIfInBounds_toArray, List.set_cons_zero, List.set_cons_succ]
  refine wpAnyH_ready (rs := [15]) (by kernel_rfl) (by simp) ?_
  refine AllReadyH.cons (o := _) rfl (fun K hK => ?_) AllReadyH.nil
  have kk := (HT5.out.2 0 _ rfl).1; have ff := (HT5.out.2 0 _ rfl).2
  obtain ⟨V0, hV0⟩ : ∃ V, w012.setCell ⟨w.heap.size + 2, 0, none⟩ (.int .i64 (s.a.lo + m % s.a.cnt)) = V := ⟨_, rfl⟩
  have HT4 : Hid (BoxIs (w.heap.size + 1) #[.int .i64 0, .int .i64 0, .int .i64 0, .int .i64 0] V0) := by show BoxIs _ _ _; rw [← hV0]; exact HT4.out.other (by omega) _
  have HT5 : Hid (BoxIs (w.heap.size + 2) #[.int .i64 (s.a.lo + m % s.a.cnt), .int .i64 0, .int .i64 0, .int .i64 0] V0) := by show BoxIs _ _ _; rw [← hV0]; exact HT5.out.put _
  go_simp
  clear kk ff
  refine hK.out _ _ (by rw [← hV0]; exact Below.setCell hS (p := ⟨w.heap.size + 2, 0, none⟩) (by show _ ≤ w.heap.size + 2; omega) _) (fun hS => ?_)
  clear hK K
  try simp only [List.setIfInBounds_toArray, List.set_cons_zero, List.set_cons_succ]
  refine tkH (i := 16) (v := ?_) (fun V hV => ?_) ?_
  rotate_left
  · go_simp
    try with_reducible rfl
  try simp only [Act.put, List.getElem_toArray, List.getElem_cons_zero, List.getElem_cons_succ, List.setIfInBounds_toArray, List.set_cons_zero, List.set_cons_succ]
  refine wpAnyH_done (by kernel_rfl) ?_ _
  have HB0 := hS
  clear hS
  go_upto_region 3 with fail
  refine wp_region_held_drew (S := fun V => Boxed1 w #[.int .i64 s.wide, .int .i64 s.high, .int .i64 s.fall, .int .i64 s.a.lo, .int .i64 s.a.hi, .int .i64 s.b.lo, .int .i64 s.b.hi, .int .i64 s.half.lo, .int .i64 s.half.hi, .int .i64 s.peak.lo, .int .i64 s.peak.hi, .slice p n c] 26 V) (by kernel_rfl) (HB0.drew) (fun hS => ?_)
  simp only [List.size_toArray, List.length_cons, List.length_nil, Nat.reduceAdd, Array.replicate_succ, Array.replicate_zero, List.push_toArray, List.nil_append, List.cons_append]
  refine tkH (i := 0) (v := ?_) (fun V hV => ?_) ?_
  rotate_left
  · go_simp
    try with_reducible rfl
  try simp only [Act.put, List.getElem_toArray, List.getElem_cons_zero, List.setIfInBounds_toArray, List.set_cons_zero, List.set_cons_succ]
  refine tkH (i := 1) (v := ?_) (fun V hV => ?_) ?_
  rotate_left
  · go_simp
    try with_reducible rfl
  try simp only [Act.put, List.getElem_toArray, List.getElem_cons_zero, List.getElem_cons_succ, List.setIfInBounds_toArray, List.set_cons_zero, List.set_cons_succ]
  refine tkH (i := 2) (v := ?_) (fun V hV => ?_) ?_
  rotate_left
  · have e0 := (StoAt.of hV.cell).c5; have e1 := (StoAt.of hV.cell).c6; go_simp
    try with_reducible rfl
  try simp only [Act.put, List.getElem_toArray, List.getElem_cons_zero, List.getElem_cons_succ, List.setIfInBounds_toArray, List.set_cons_zero, List.set_cons_succ]
  refine tkH (i := 3) (v := ?_) (fun V hV => ?_) ?_
  rotate_left
  · go_simp
    try with_reducible rfl
  try simp only [Act.put, List.getElem_toArray, List.getElem_cons_zero, List.getElem_cons_succ, List.setIfInBounds_toArray, List.set_cons_zero, List.set_cons_succ]
  refine tkH (i := 4) (v := ?_) (fun V hV => ?_) ?_
  rotate_left
  · go_simp
    try with_reducible rfl
  try simp only [Act.put, List.getElem_toArray, List.getElem_cons_zero, List.getElem_cons_succ, List.setIfInBounds_toArray, List.set_cons_zero, List.set_cons_succ]
  refine tkH (i := 5) (v := ?_) (fun V hV => ?_) ?_
  rotate_left
  · have e0 := (StoAt.of hV.cell).c5; have e1 := (StoAt.of hV.cell).c6; go_simp
    try with_reducible rfl
  try simp only [Act.put, List.getElem_toArray, List.getElem_cons_zero, List.getElem_cons_succ, List.setIfInBounds_toArray, List.set_cons_zero, List.set_cons_succ]
  refine tkH (i := 9) (v := ?_) (fun V hV => ?_) ?_
  rotate_left
  · go_simp
    try with_reducible rfl
  try simp only [Act.put, List.getElem_toArray, List.getElem_cons_zero, List.getElem_cons_succ, List.setIfInBounds_toArray, List.set_cons_zero, List.set_cons_succ]
  refine tkH (i := 10) (v := ?_) (fun V hV => ?_) ?_
  rotate_left
  · go_simp
    try with_reducible rfl
  try simp only [Act.put, List.getElem_toArray, List.getElem_cons_zero, List.getElem_cons_succ, List.setIfInBounds_toArray, List.set_cons_zero, List.set_cons_succ]
  refine tkH (i := 11) (v := ?_) (fun V hV => ?_) ?_
  rotate_left
  · have e0 := (StoAt.of hV.cell).c5; have e1 := (StoAt.of hV.cell).c6; go_simp
    try with_reducible rfl
  try simp only [Act.put, List.getElem_toArray, List.getElem_cons_zero, List.getElem_cons_succ, List.setIfInBounds_toArray, List.set_cons_zero, List.set_cons_succ]
  refine wpAnyH_ready (rs := [6]) (by kernel_rfl) (by simp) ?_
  refine AllReadyH.cons (o := _) rfl (fun K hK => ?_) AllReadyH.nil
  go_simp
  (with_reducible refine (count_any _ _ ‹_› ‹_› ‹_› ‹_›).mono ?_)
  rintro e w16 ⟨rfl, hb⟩
  have HT4 := hid (HT4.out.below ((Below.refl _ _).drew.trans hb))
  have HT5 := hid (HT5.out.below ((Below.refl _ _).drew.trans hb))
  refine hK.out _ _ (hS.step hb) (fun hS => ?_)
  clear hK K
  try simp only [List.setIfInBounds_toArray, List.set_cons_zero, List.set_cons_succ]
  refine tkH (i := 7) (v := ?_) (fun V hV => ?_) ?_
  rotate_left
  · have ⟨⟨q0, q1⟩, q2, q3, q4, q5⟩ := Q1.out; go_simp
    try with_reducible rfl
  try simp only [Act.put, List.getElem_toArray, List.getElem_cons_zero, List.getElem_cons_succ, List.setIfInBounds_toArray, List.set_cons_zero, List.set_cons_succ]
  refine tkH (i := 8) (v := ?_) (fun V hV => ?_) ?_
  rotate_left
  · have ⟨⟨q0, q1⟩, q2, q3, q4, q5⟩ := Q1.out; go_simp
    try with_reducible rfl
  try simp only [Act.put, List.getElem_toArray, List.getElem_cons_zero, List.getElem_cons_succ, List.setIfInBounds_toArray, List.set_cons_zero, List.set_cons_succ]
  refine tkH (i := 14) (v := ?_) (fun V hV => ?_) ?_
  rotate_left
  · go_simp
    try with_reducible rfl
  try simp only [Act.put, List.getElem_toArray, List.getElem_cons_zero, List.getElem_cons_succ, List.setIfInBounds_toArray, List.set_cons_zero, List.set_cons_succ]
  refine wpAnyH_ready (rs := [12]) (by kernel_rfl) (by simp) ?_
  refine AllReadyH.cons (o := _) rfl (fun K hK => ?_) AllReadyH.nil
  go_simp
  (with_reducible refine (count_any _ _ ‹_› ‹_› ‹_› ‹_›).mono ?_)
  rintro e w112 ⟨rfl, hb⟩
  have HT4 := hid (HT4.out.below hb)
  have HT5 := hid (HT5.out.below hb)
  refine hK.out _ _ (hS.step hb) (fun hS => ?_)
  clear hK K
  try simp only [List.setIfInBounds_toArray, List.set_cons_zero, List.set_cons_succ]
  refine tkH (i := 13) (v := ?_) (fun V hV => ?_) ?_
  rotate_left
  · have ⟨⟨q0, q1⟩, q2, q3, q4, q5⟩ := Q1.out; go_simp
    try with_reducible rfl
  try simp only [Act.put, List.getElem_toArray, List.getElem_cons_zero, List.getElem_cons_succ, List.setIfInBounds_toArray, List.set_cons_zero, List.set_cons_succ]
  refine wpAnyH_ready (rs := [15]) (by kernel_rfl) (by simp) ?_
  refine AllReadyH.cons (o := _) rfl (fun K hK => ?_) AllReadyH.nil
  have kk := (HT5.out.2 1 _ rfl).1; have ff := (HT5.out.2 1 _ rfl).2
  obtain ⟨V1, hV1⟩ : ∃ V, w112.setCell ⟨w.heap.size + 2, 1, none⟩ (.int .i64 (s.b.lo + m / s.a.cnt % s.b.cnt)) = V := ⟨_, rfl⟩
  have HT4 : Hid (BoxIs (w.heap.size + 1) #[.int .i64 0, .int .i64 0, .int .i64 0, .int .i64 0] V1) := by show BoxIs _ _ _; rw [← hV1]; exact HT4.out.other (by omega) _
  have HT5 : Hid (BoxIs (w.heap.size + 2) #[.int .i64 (s.a.lo + m % s.a.cnt), .int .i64 (s.b.lo + m / s.a.cnt % s.b.cnt), .int .i64 0, .int .i64 0] V1) := by show BoxIs _ _ _; rw [← hV1]; exact HT5.out.put _
  go_simp
  clear kk ff
  refine hK.out _ _ (by rw [← hV1]; exact Below.setCell hS (p := ⟨w.heap.size + 2, 1, none⟩) (by show _ ≤ w.heap.size + 2; omega) _) (fun hS => ?_)
  clear hK K
  try simp only [List.setIfInBounds_toArray, List.set_cons_zero, List.set_cons_succ]
  refine tkH (i := 16) (v := ?_) (fun V hV => ?_) ?_
  rotate_left
  · go_simp
    try with_reducible rfl
  try simp only [Act.put, List.getElem_toArray, List.getElem_cons_zero, List.getElem_cons_succ, List.setIfInBounds_toArray, List.set_cons_zero, List.set_cons_succ]
  refine wpAnyH_done (by kernel_rfl) ?_ _
  have HB1 := hS
  clear hS
  go_upto_region 4 with fail
  refine wp_region_held_drew (S := fun V => Boxed1 w #[.int .i64 s.wide, .int .i64 s.high, .int .i64 s.fall, .int .i64 s.a.lo, .int .i64 s.a.hi, .int .i64 s.b.lo, .int .i64 s.b.hi, .int .i64 s.half.lo, .int .i64 s.half.hi, .int .i64 s.peak.lo, .int .i64 s.peak.hi, .slice p n c] 26 V) (by kernel_rfl) (HB1.drew) (fun hS => ?_)
  simp only [List.size_toArray, List.length_cons, List.length_nil, Nat.reduceAdd, Array.replicate_succ, Array.replicate_zero, List.push_toArray, List.nil_append, List.cons_append]
  refine tkH (i := 0) (v := ?_) (fun V hV => ?_) ?_
  rotate_left
  · go_simp
    try with_reducible rfl
  try simp only [Act.put, List.getElem_toArray, List.getElem_cons_zero, List.setIfInBounds_toArray, List.set_cons_zero, List.set_cons_succ]
  refine tkH (i := 1) (v := ?_) (fun V hV => ?_) ?_
  rotate_left
  · go_simp
    try with_reducible rfl
  try simp only [Act.put, List.getElem_toArray, List.getElem_cons_zero, List.getElem_cons_succ, List.setIfInBounds_toArray, List.set_cons_zero, List.set_cons_succ]
  refine tkH (i := 2) (v := ?_) (fun V hV => ?_) ?_
  rotate_left
  · have e0 := (StoAt.of hV.cell).c7; have e1 := (StoAt.of hV.cell).c8; go_simp
    try with_reducible rfl
  try simp only [Act.put, List.getElem_toArray, List.getElem_cons_zero, List.getElem_cons_succ, List.setIfInBounds_toArray, List.set_cons_zero, List.set_cons_succ]
  refine tkH (i := 3) (v := ?_) (fun V hV => ?_) ?_
  rotate_left
  · go_simp
    try with_reducible rfl
  try simp only [Act.put, List.getElem_toArray, List.getElem_cons_zero, List.getElem_cons_succ, List.setIfInBounds_toArray, List.set_cons_zero, List.set_cons_succ]
  refine tkH (i := 4) (v := ?_) (fun V hV => ?_) ?_
  rotate_left
  · go_simp
    try with_reducible rfl
  try simp only [Act.put, List.getElem_toArray, List.getElem_cons_zero, List.getElem_cons_succ, List.setIfInBounds_toArray, List.set_cons_zero, List.set_cons_succ]
  refine tkH (i := 5) (v := ?_) (fun V hV => ?_) ?_
  rotate_left
  · have e0 := (StoAt.of hV.cell).c7; have e1 := (StoAt.of hV.cell).c8; go_simp
    try with_reducible rfl
  try simp only [Act.put, List.getElem_toArray, List.getElem_cons_zero, List.getElem_cons_succ, List.setIfInBounds_toArray, List.set_cons_zero, List.set_cons_succ]
  refine tkH (i := 9) (v := ?_) (fun V hV => ?_) ?_
  rotate_left
  · go_simp
    try with_reducible rfl
  try simp only [Act.put, List.getElem_toArray, List.getElem_cons_zero, List.getElem_cons_succ, List.setIfInBounds_toArray, List.set_cons_zero, List.set_cons_succ]
  refine tkH (i := 10) (v := ?_) (fun V hV => ?_) ?_
  rotate_left
  · go_simp
    try with_reducible rfl
  try simp only [Act.put, List.getElem_toArray, List.getElem_cons_zero, List.getElem_cons_succ, List.setIfInBounds_toArray, List.set_cons_zero, List.set_cons_succ]
  refine tkH (i := 11) (v := ?_) (fun V hV => ?_) ?_
  rotate_left
  · have e0 := (StoAt.of hV.cell).c7; have e1 := (StoAt.of hV.cell).c8; go_simp
    try with_reducible rfl
  try simp only [Act.put, List.getElem_toArray, List.getElem_cons_zero, List.getElem_cons_succ, List.setIfInBounds_toArray, List.set_cons_zero, List.set_cons_succ]
  refine wpAnyH_ready (rs := [6]) (by kernel_rfl) (by simp) ?_
  refine AllReadyH.cons (o := _) rfl (fun K hK => ?_) AllReadyH.nil
  go_simp
  (with_reducible refine (count_any _ _ ‹_› ‹_› ‹_› ‹_›).mono ?_)
  rintro e w26 ⟨rfl, hb⟩
  have HT4 := hid (HT4.out.below ((Below.refl _ _).drew.trans hb))
  have HT5 := hid (HT5.out.below ((Below.refl _ _).drew.trans hb))
  refine hK.out _ _ (hS.step hb) (fun hS => ?_)
  clear hK K
  try simp only [List.setIfInBounds_toArray, List.set_cons_zero, List.set_cons_succ]
  refine tkH (i := 7) (v := ?_) (fun V hV => ?_) ?_
  rotate_left
  · have ⟨⟨q0, q1⟩, q2, q3, q4, q5⟩ := Q2.out; go_simp
    try with_reducible rfl
  try simp only [Act.put, List.getElem_toArray, List.getElem_cons_zero, List.getElem_cons_succ, List.setIfInBounds_toArray, List.set_cons_zero, List.set_cons_succ]
  refine tkH (i := 8) (v := ?_) (fun V hV => ?_) ?_
  rotate_left
  · have ⟨⟨q0, q1⟩, q2, q3, q4, q5⟩ := Q2.out; go_simp
    try with_reducible rfl
  try simp only [Act.put, List.getElem_toArray, List.getElem_cons_zero, List.getElem_cons_succ, List.setIfInBounds_toArray, List.set_cons_zero, List.set_cons_succ]
  refine tkH (i := 14) (v := ?_) (fun V hV => ?_) ?_
  rotate_left
  · go_simp
    try with_reducible rfl
  try simp only [Act.put, List.getElem_toArray, List.getElem_cons_zero, List.getElem_cons_succ, List.setIfInBounds_toArray, List.set_cons_zero, List.set_cons_succ]
  refine wpAnyH_ready (rs := [12]) (by kernel_rfl) (by simp) ?_
  refine AllReadyH.cons (o := _) rfl (fun K hK => ?_) AllReadyH.nil
  go_simp
  (with_reducible refine (count_any _ _ ‹_› ‹_› ‹_› ‹_›).mono ?_)
  rintro e w212 ⟨rfl, hb⟩
  have HT4 := hid (HT4.out.below hb)
  have HT5 := hid (HT5.out.below hb)
  refine hK.out _ _ (hS.step hb) (fun hS => ?_)
  clear hK K
  try simp only [List.setIfInBounds_toArray, List.set_cons_zero, List.set_cons_succ]
  refine tkH (i := 13) (v := ?_) (fun V hV => ?_) ?_
  rotate_left
  · have ⟨⟨q0, q1⟩, q2, q3, q4, q5⟩ := Q2.out; go_simp
    try with_reducible rfl
  try simp only [Act.put, List.getElem_toArray, List.getElem_cons_zero, List.getElem_cons_succ, List.setIfInBounds_toArray, List.set_cons_zero, List.set_cons_succ]
  refine wpAnyH_ready (rs := [15]) (by kernel_rfl) (by simp) ?_
  refine AllReadyH.cons (o := _) rfl (fun K hK => ?_) AllReadyH.nil
  have kk := (HT5.out.2 2 _ rfl).1; have ff := (HT5.out.2 2 _ rfl).2
  obtain ⟨V2, hV2⟩ : ∃ V, w212.setCell ⟨w.heap.size + 2, 2, none⟩ (.int .i64 (s.half.lo + m / s.a.cnt / s.b.cnt % s.half.cnt)) = V := ⟨_, rfl⟩
  have HT4 : Hid (BoxIs (w.heap.size + 1) #[.int .i64 0, .int .i64 0, .int .i64 0, .int .i64 0] V2) := by show BoxIs _ _ _; rw [← hV2]; exact HT4.out.other (by omega) _
  have HT5 : Hid (BoxIs (w.heap.size + 2) #[.int .i64 (s.a.lo + m % s.a.cnt), .int .i64 (s.b.lo + m / s.a.cnt % s.b.cnt), .int .i64 (s.half.lo + m / s.a.cnt / s.b.cnt % s.half.cnt), .int .i64 0] V2) := by show BoxIs _ _ _; rw [← hV2]; exact HT5.out.put _
  go_simp
  clear kk ff
  refine hK.out _ _ (by rw [← hV2]; exact Below.setCell hS (p := ⟨w.heap.size + 2, 2, none⟩) (by show _ ≤ w.heap.size + 2; omega) _) (fun hS => ?_)
  clear hK K
  try simp only [List.setIfInBounds_toArray, List.set_cons_zero, List.set_cons_succ]
  refine tkH (i := 16) (v := ?_) (fun V hV => ?_) ?_
  rotate_left
  · go_simp
    try with_reducible rfl
  try simp only [Act.put, List.getElem_toArray, List.getElem_cons_zero, List.getElem_cons_succ, List.setIfInBounds_toArray, List.set_cons_zero, List.set_cons_succ]
  refine wpAnyH_done (by kernel_rfl) ?_ _
  have HB2 := hS
  clear hS
  go_upto_region 5 with fail
  have k9 := (StoAt.of HB2.cell).c9
  have kk := (HT5.out.2 3 _ rfl).1; have ff := (HT5.out.2 3 _ rfl).2
  obtain ⟨V3, hV3⟩ : ∃ V, V2.setCell ⟨w.heap.size + 2, 3, none⟩ (.int .i64 (s.peak.lo + m / s.a.cnt / s.b.cnt / s.half.cnt)) = V := ⟨_, rfl⟩
  have HB3 : Boxed1 w #[.int .i64 s.wide, .int .i64 s.high, .int .i64 s.fall, .int .i64 s.a.lo, .int .i64 s.a.hi, .int .i64 s.b.lo, .int .i64 s.b.hi, .int .i64 s.half.lo, .int .i64 s.half.hi, .int .i64 s.peak.lo, .int .i64 s.peak.hi, .slice p n c] 26 V3 := by rw [← hV3]; exact Below.setCell HB2 (p := ⟨w.heap.size + 2, 3, none⟩) (by show _ ≤ w.heap.size + 2; omega) _
  have HT4 : Hid (BoxIs (w.heap.size + 1) #[.int .i64 0, .int .i64 0, .int .i64 0, .int .i64 0] V3) := by show BoxIs _ _ _; rw [← hV3]; exact HT4.out.other (by omega) _
  have HT5 : Hid (BoxIs (w.heap.size + 2) #[.int .i64 (s.a.lo + m % s.a.cnt), .int .i64 (s.b.lo + m / s.a.cnt % s.b.cnt), .int .i64 (s.half.lo + m / s.a.cnt / s.b.cnt % s.half.cnt), .int .i64 (s.peak.lo + m / s.a.cnt / s.b.cnt / s.half.cnt)] V3) := by show BoxIs _ _ _; rw [← hV3]; exact HT5.out.put _
  go_upto_region 6 with fail
  clear kk ff k9 hV0 hV1 hV2 hV3
  have g0 := (HT5.out.2 0 _ rfl).1
  have g1 := (HT5.out.2 1 _ rfl).1
  have g2 := (HT5.out.2 2 _ rfl).1
  have g3 := (HT5.out.2 3 _ rfl).1
  have k0 := (HT4.out.2 0 _ rfl).1; have f0 := (HT4.out.2 0 _ rfl).2
  have k1 := (HT4.out.2 1 _ rfl).1; have f1 := (HT4.out.2 1 _ rfl).2
  have k2 := (HT4.out.2 2 _ rfl).1; have f2 := (HT4.out.2 2 _ rfl).2
  have k3 := (HT4.out.2 3 _ rfl).1; have f3 := (HT4.out.2 3 _ rfl).2
  go_wp2_with fail
  have HR := (((HT4.out.put (j := 0) (.int .i64 (s.a.lo + m % s.a.cnt))).put (j := 1) (.int .i64 (s.b.lo + m / s.a.cnt % s.b.cnt))).put (j := 2) (.int .i64 (s.half.lo + m / s.a.cnt / s.b.cnt % s.half.cnt))).put (j := 3) (.int .i64 (s.peak.lo + m / s.a.cnt / s.b.cnt / s.half.cnt))
  have y0 := (HR.2 0 (.int .i64 (s.a.lo + m % s.a.cnt)) rfl).1
  have y1 := (HR.2 1 (.int .i64 (s.b.lo + m / s.a.cnt % s.b.cnt)) rfl).1
  have y2 := (HR.2 2 (.int .i64 (s.half.lo + m / s.a.cnt / s.b.cnt % s.half.cnt)) rfl).1
  have y3 := (HR.2 3 (.int .i64 (s.peak.lo + m / s.a.cnt / s.b.cnt / s.half.cnt)) rfl).1
  refine bodyPost_ret (v := .agg #[.int .i64 (s.a.lo + m % s.a.cnt), .int .i64 (s.b.lo + m / s.a.cnt % s.b.cnt), .int .i64 (s.half.lo + m / s.a.cnt / s.b.cnt % s.half.cnt), .int .i64 (s.peak.lo + m / s.a.cnt / s.b.cnt / s.half.cnt)]) (by simp [results, Try.f88, go_sem, y0, y1, y2, y3]) rfl ?_
  refine ⟨rfl, ?_⟩
  exact below_put4 HB3.below (show w.heap.size ≤ w.heap.size + 1 by omega) _ _ _ _
end Go.Proofs.Ytfnefkenheglhaa
