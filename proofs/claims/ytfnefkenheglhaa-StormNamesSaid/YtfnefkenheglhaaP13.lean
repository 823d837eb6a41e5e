/- Package storm: whether a truth is one of a storm. No condition. -/
import Derived.Test.YtfnefkenheglhaaP8
import Derived.Test.YtfnefkenheglhaaA9
namespace Go.Proofs.Ytfnefkenheglhaa
open Go.RowKit

theorem knows_nil (s : Sto) : Knows s (fun _ => none) := fun _ _ h => by cases h
def provedB (s : Sto) (t : Tru) : Bool := faultS s == 0 && (truB s t && s.cards.all (fitsB s t))

set_option maxRecDepth 40000 in
set_option maxHeartbeats 4000000 in
theorem prove0 (s : Sto) (p : Option Addr) (n c : Nat) (t : Tru) (w : World) (hcs : CrdsAt w p n s.cards) (h0 : faultS s ≠ 0) :
    Calls Try.prog 52 #[.agg #[.int .i64 s.wide, .int .i64 s.high, .int .i64 s.fall, .int .i64 s.a.lo, .int .i64 s.a.hi, .int .i64 s.b.lo, .int .i64 s.b.hi, .int .i64 s.half.lo, .int .i64 s.half.hi, .int .i64 s.peak.lo, .int .i64 s.peak.hi, .slice p n c], .agg #[.int .i64 t.a, .int .i64 t.b, .int .i64 t.half, .int .i64 t.peak]] w fun e w' => e = .returned (.bool (provedB s t)) ∧ Below w.heap.size w w' := by
  have HC := hid hcs
  have HCK := hid (fun W (hb : Below w.heap.size w W) => checkStorm_any s p n c W (hcs.below hb))
  clear hcs
  have HN : Hid ((faultS s == 0) = false) := hid (by simp [h0])
  have HRES : Hid (provedB s t = false) := hid (by rw [provedB, HN.out]; rfl)
  clear h0
  have HBX : Hid (Boxed2 w #[.int .i64 s.wide, .int .i64 s.high, .int .i64 s.fall, .int .i64 s.a.lo, .int .i64 s.a.hi, .int .i64 s.b.lo, .int .i64 s.b.hi, .int .i64 s.half.lo, .int .i64 s.half.hi, .int .i64 s.peak.lo, .int .i64 s.peak.hi, .slice p n c] 35 #[.int .i64 t.a, .int .i64 t.b, .int .i64 t.half, .int .i64 t.peak] 94 ((w.alloc (.cells #[.int .i64 s.wide, .int .i64 s.high, .int .i64 s.fall, .int .i64 s.a.lo, .int .i64 s.a.hi, .int .i64 s.b.lo, .int .i64 s.b.hi, .int .i64 s.half.lo, .int .i64 s.half.hi, .int .i64 s.peak.lo, .int .i64 s.peak.hi, .slice p n c] 35)).alloc (.cells #[.int .i64 t.a, .int .i64 t.b, .int .i64 t.half, .int .i64 t.peak] 94))) := hid (Below.refl _ _)
  go_enter Try.func52, Try.ntmps52
  go_upto_region 1 with fail
  refine wp_region_held_drew (S := fun V => Boxed2 w #[.int .i64 s.wide, .int .i64 s.high, .int .i64 s.fall, .int .i64 s.a.lo, .int .i64 s.a.hi, .int .i64 s.b.lo, .int .i64 s.b.hi, .int .i64 s.half.lo, .int .i64 s.half.hi, .int .i64 s.peak.lo, .int .i64 s.peak.hi, .slice p n c] 35 #[.int .i64 t.a, .int .i64 t.b, .int .i64 t.half, .int .i64 t.peak] 94 V) (by kernel_rfl) (HBX.out.drew) (fun hS => ?_)
  simp only [List.size_toArray, List.length_cons, List.length_nil, Nat.reduceAdd, Array.replicate_succ, Array.replicate_zero, List.push_toArray, List.nil_append, List.cons_append]
  refine tkH (i := 0) (v := ?_) (fun V hV => ?_) ?_
  rotate_left
  · have e0 := (StoAt.of hV.cell1).c0; have e1 := (StoAt.of hV.cell1).c1; have e2 := (StoAt.of hV.cell1).c2; have e3 := (StoAt.of hV.cell1).c3; have e4 := (StoAt.of hV.cell1).c4; have e5 := (StoAt.of hV.cell1).c5; have e6 := (StoAt.of hV.cell1).c6; have e7 := (StoAt.of hV.cell1).c7; have e8 := (StoAt.of hV.cell1).c8; have e9 := (StoAt.of hV.cell1).c9; have e10 := (StoAt.of hV.cell1).c10; have e11 := (StoAt.of hV.cell1).c11; go_simp
    try with_reducible rfl
  try simp only [Act.put, List.getElem_toArray, List.getElem_cons_zero, List.setIfInBounds_toArray, List.set_cons_zero, List.set_cons_succ]
  refine wpAnyH_ready (rs := [1]) (by kernel_rfl) (by simp) ?_
  refine AllReadyH.cons (o := _) rfl (fun K hK => ?_) AllReadyH.nil
  go_simp
  (with_reducible refine (HCK.out _ hS.below).mono ?_)
  rintro e v1 ⟨rfl, hb⟩
  refine hK.out _ _ (hS.step1 hb) (fun hS => ?_)
  clear hK K
  try simp only [List.setIfInBounds_toArray, List.set_cons_zero, List.set_cons_succ]
  refine tkH (i := 2) (v := ?_) (fun V hV => ?_) ?_
  rotate_left
  · have q := HN.out; go_simp
    try with_reducible rfl
  try simp only [Act.put, List.getElem_toArray, List.getElem_cons_zero, List.getElem_cons_succ, List.setIfInBounds_toArray, List.set_cons_zero, List.set_cons_succ]
  refine tkH (i := 3) (v := ?_) (fun V hV => ?_) ?_
  rotate_left
  · go_simp
    try with_reducible rfl
  try simp only [Act.put, List.getElem_toArray, List.getElem_cons_zero, List.getElem_cons_succ, List.setIfInBounds_toArray, List.set_cons_zero, List.set_cons_succ]
  refine tkU (i := 4) ?_
  try simp only [Act.put, List.getElem_toArray, List.getElem_cons_zero, List.getElem_cons_succ, List.setIfInBounds_toArray, List.set_cons_zero, List.set_cons_succ]
  refine tkU (i := 5) ?_
  try simp only [Act.put, List.getElem_toArray, List.getElem_cons_zero, List.getElem_cons_succ, List.setIfInBounds_toArray, List.set_cons_zero, List.set_cons_succ]
  refine tkU (i := 6) ?_
  try simp only [Act.put, List.getElem_toArray, List.getElem_cons_zero, List.getElem_cons_succ, List.setIfInBounds_toArray, List.set_cons_zero, List.set_cons_succ]
  refine tkU (i := 7) ?_
  try simp only [Act.put, List.getElem_toArray, List.getElem_cons_zero, List.getElem_cons_succ, List.setIfInBounds_toArray, List.set_cons_zero, List.set_cons_succ]
  refine tkU (i := 8) ?_
  try simp only [Act.put, List.getElem_toArray, List.getElem_cons_zero, List.getElem_cons_succ, List.setIfInBounds_toArray, List.set_cons_zero, List.set_cons_succ]
  refine tkH (i := 9) (v := ?_) (fun V hV => ?_) ?_
  rotate_left
  · go_simp
    try with_reducible rfl
  try simp only [Act.put, List.getElem_toArray, List.getElem_cons_zero, List.getElem_cons_succ, List.setIfInBounds_toArray, List.set_cons_zero, List.set_cons_succ]
  refine tkH (i := 10) (v := ?_) (fun V hV => ?_) ?_
  rotate_left
  · go_simp
    try with_reducible rfl
  try simp only [Act.put, List.getElem_toArray, List.getElem_cons_zero, List.getElem_cons_succ, List.setIfInBounds_toArray, List.set_cons_zero, List.set_cons_succ]
  refine tkU (i := 11) ?_
  try simp only [Act.put, List.getElem_toArray, List.getElem_cons_zero, List.getElem_cons_succ, List.setIfInBounds_toArray, List.set_cons_zero, List.set_cons_succ]
  refine tkU (i := 12) ?_
  try simp only [Act.put, List.getElem_toArray, List.getElem_cons_zero, List.getElem_cons_succ, List.setIfInBounds_toArray, List.set_cons_zero, List.set_cons_succ]
  refine tkU (i := 13) ?_
  try simp only [Act.put, List.getElem_toArray, List.getElem_cons_zero, List.getElem_cons_succ, List.setIfInBounds_toArray, List.set_cons_zero, List.set_cons_succ]
  refine tkU (i := 14) ?_
  try simp only [Act.put, List.getElem_toArray, List.getElem_cons_zero, List.getElem_cons_succ, List.setIfInBounds_toArray, List.set_cons_zero, List.set_cons_succ]
  refine tkU (i := 15) ?_
  try simp only [Act.put, List.getElem_toArray, List.getElem_cons_zero, List.getElem_cons_succ, List.setIfInBounds_toArray, List.set_cons_zero, List.set_cons_succ]
  refine tkH (i := 16) (v := ?_) (fun V hV => ?_) ?_
  rotate_left
  · go_simp
    try with_reducible rfl
  try simp only [Act.put, List.getElem_toArray, List.getElem_cons_zero, List.getElem_cons_succ, List.setIfInBounds_toArray, List.set_cons_zero, List.set_cons_succ]
  refine tkH (i := 17) (v := ?_) (fun V hV => ?_) ?_
  rotate_left
  · go_simp
    try with_reducible rfl
  try simp only [Act.put, List.getElem_toArray, List.getElem_cons_zero, List.getElem_cons_succ, List.setIfInBounds_toArray, List.set_cons_zero, List.set_cons_succ]
  refine tkU (i := 18) ?_
  try simp only [Act.put, List.getElem_toArray, List.getElem_cons_zero, List.getElem_cons_succ, List.setIfInBounds_toArray, List.set_cons_zero, List.set_cons_succ]
  refine tkU (i := 19) ?_
  try simp only [Act.put, List.getElem_toArray, List.getElem_cons_zero, List.getElem_cons_succ, List.setIfInBounds_toArray, List.set_cons_zero, List.set_cons_succ]
  refine tkU (i := 20) ?_
  try simp only [Act.put, List.getElem_toArray, List.getElem_cons_zero, List.getElem_cons_succ, List.setIfInBounds_toArray, List.set_cons_zero, List.set_cons_succ]
  refine tkU (i := 21) ?_
  try simp only [Act.put, List.getElem_toArray, List.getElem_cons_zero, List.getElem_cons_succ, List.setIfInBounds_toArray, List.set_cons_zero, List.set_cons_succ]
  refine tkU (i := 22) ?_
  try simp only [Act.put, List.getElem_toArray, List.getElem_cons_zero, List.getElem_cons_succ, List.setIfInBounds_toArray, List.set_cons_zero, List.set_cons_succ]
  refine tkH (i := 23) (v := ?_) (fun V hV => ?_) ?_
  rotate_left
  · go_simp
    try with_reducible rfl
  try simp only [Act.put, List.getElem_toArray, List.getElem_cons_zero, List.getElem_cons_succ, List.setIfInBounds_toArray, List.set_cons_zero, List.set_cons_succ]
  refine tkH (i := 24) (v := ?_) (fun V hV => ?_) ?_
  rotate_left
  · go_simp
    try with_reducible rfl
  try simp only [Act.put, List.getElem_toArray, List.getElem_cons_zero, List.getElem_cons_succ, List.setIfInBounds_toArray, List.set_cons_zero, List.set_cons_succ]
  refine tkU (i := 25) ?_
  try simp only [Act.put, List.getElem_toArray, List.getElem_cons_zero, List.getElem_cons_succ, List.setIfInBounds_toArray, List.set_cons_zero, List.set_cons_succ]
  refine tkU (i := 26) ?_
  try simp only [Act.put, List.getElem_toArray, List.getElem_cons_zero, List.getElem_cons_succ, List.setIfInBounds_toArray, List.set_cons_zero, List.set_cons_succ]
  refine tkU (i := 27) ?_
  try simp only [Act.put, List.getElem_toArray, List.getElem_cons_zero, List.getElem_cons_succ, List.setIfInBounds_toArray, List.set_cons_zero, List.set_cons_succ]
  refine tkU (i := 28) ?_
  try simp only [Act.put, List.getElem_toArray, List.getElem_cons_zero, List.getElem_cons_succ, List.setIfInBounds_toArray, List.set_cons_zero, List.set_cons_succ]
  refine tkU (i := 29) ?_
  try simp only [Act.put, List.getElem_toArray, List.getElem_cons_zero, List.getElem_cons_succ, List.setIfInBounds_toArray, List.set_cons_zero, List.set_cons_succ]
  refine tkH (i := 30) (v := ?_) (fun V hV => ?_) ?_
  rotate_left
  · go_simp
    try with_reducible rfl
  try simp only [Act.put, List.getElem_toArray, List.getElem_cons_zero, List.getElem_cons_succ, List.setIfInBounds_toArray, List.set_cons_zero, List.set_cons_succ]
  refine tkH (i := 31) (v := ?_) (fun V hV => ?_) ?_
  rotate_left
  · go_simp
    try with_reducible rfl
  try simp only [Act.put, List.getElem_toArray, List.getElem_cons_zero, List.getElem_cons_succ, List.setIfInBounds_toArray, List.set_cons_zero, List.set_cons_succ]
  refine tkU (i := 32) ?_
  try simp only [Act.put, List.getElem_toArray, List.getElem_cons_zero, List.getElem_cons_succ, List.setIfInBounds_toArray, List.set_cons_zero, List.set_cons_succ]
  refine tkU (i := 33) ?_
  try simp only [Act.put, List.getElem_toArray, List.getElem_cons_zero, List.getElem_cons_succ, List.setIfInBounds_toArray, List.set_cons_zero, List.set_cons_succ]
  refine tkU (i := 34) ?_
  try simp only [Act.put, List.getElem_toArray, List.getElem_cons_zero, List.getElem_cons_succ, List.setIfInBounds_toArray, List.set_cons_zero, List.set_cons_succ]
  refine tkU (i := 35) ?_
  try simp only [Act.put, List.getElem_toArray, List.getElem_cons_zero, List.getElem_cons_succ, List.setIfInBounds_toArray, List.set_cons_zero, List.set_cons_succ]
  refine tkU (i := 36) ?_
  try simp only [Act.put, List.getElem_toArray, List.getElem_cons_zero, List.getElem_cons_succ, List.setIfInBounds_toArray, List.set_cons_zero, List.set_cons_succ]
  refine tkU (i := 37) ?_
  try simp only [Act.put, List.getElem_toArray, List.getElem_cons_zero, List.getElem_cons_succ, List.setIfInBounds_toArray, List.set_cons_zero, List.set_cons_succ]
  refine tkH (i := 38) (v := ?_) (fun V hV => ?_) ?_
  rotate_left
  · go_simp
    try with_reducible rfl
  try simp only [Act.put, List.getElem_toArray, List.getElem_cons_zero, List.getElem_cons_succ, List.setIfInBounds_toArray, List.set_cons_zero, List.set_cons_succ]
  refine tkH (i := 39) (v := ?_) (fun V hV => ?_) ?_
  rotate_left
  · go_simp
    try with_reducible rfl
  try simp only [Act.put, List.getElem_toArray, List.getElem_cons_zero, List.getElem_cons_succ, List.setIfInBounds_toArray, List.set_cons_zero, List.set_cons_succ]
  refine wpAnyH_done (by kernel_rfl) ?_ _
  have HS9 := hid hS
  clear hS
  go_wp2_with fail
  go_ret
  exact ⟨by rw [HRES.out]; rfl, HS9.out.below⟩

set_option maxRecDepth 40000 in
set_option maxHeartbeats 4000000 in
theorem prove1 (s : Sto) (p : Option Addr) (n c : Nat) (t : Tru) (w : World) (hcs : CrdsAt w p n s.cards) (h0 : faultS s = 0) (hb0 : inB t.a s.a.lo s.a.hi = false) :
    Calls Try.prog 52 #[.agg #[.int .i64 s.wide, .int .i64 s.high, .int .i64 s.fall, .int .i64 s.a.lo, .int .i64 s.a.hi, .int .i64 s.b.lo, .int .i64 s.b.hi, .int .i64 s.half.lo, .int .i64 s.half.hi, .int .i64 s.peak.lo, .int .i64 s.peak.hi, .slice p n c], .agg #[.int .i64 t.a, .int .i64 t.b, .int .i64 t.half, .int .i64 t.peak]] w fun e w' => e = .returned (.bool (provedB s t)) ∧ Below w.heap.size w w' := by
  have HC := hid hcs
  have HCK := hid (fun W (hb : Below w.heap.size w W) => checkStorm_any s p n c W (hcs.below hb))
  clear hcs
  have H0 := hid h0
  have HB0 := hid hb0
  have HRES : Hid (provedB s t = false) := hid (by rw [provedB, truB, hb0]; simp)
  clear h0 hb0
  have HBX : Hid (Boxed2 w #[.int .i64 s.wide, .int .i64 s.high, .int .i64 s.fall, .int .i64 s.a.lo, .int .i64 s.a.hi, .int .i64 s.b.lo, .int .i64 s.b.hi, .int .i64 s.half.lo, .int .i64 s.half.hi, .int .i64 s.peak.lo, .int .i64 s.peak.hi, .slice p n c] 35 #[.int .i64 t.a, .int .i64 t.b, .int .i64 t.half, .int .i64 t.peak] 94 ((w.alloc (.cells #[.int .i64 s.wide, .int .i64 s.high, .int .i64 s.fall, .int .i64 s.a.lo, .int .i64 s.a.hi, .int .i64 s.b.lo, .int .i64 s.b.hi, .int .i64 s.half.lo, .int .i64 s.half.hi, .int .i64 s.peak.lo, .int .i64 s.peak.hi, .slice p n c] 35)).alloc (.cells #[.int .i64 t.a, .int .i64 t.b, .int .i64 t.half, .int .i64 t.peak] 94))) := hid (Below.refl _ _)
  go_enter Try.func52, Try.ntmps52
  go_upto_region 1 with fail
  refine wp_region_held_drew (S := fun V => Boxed2 w #[.int .i64 s.wide, .int .i64 s.high, .int .i64 s.fall, .int .i64 s.a.lo, .int .i64 s.a.hi, .int .i64 s.b.lo, .int .i64 s.b.hi, .int .i64 s.half.lo, .int .i64 s.half.hi, .int .i64 s.peak.lo, .int .i64 s.peak.hi, .slice p n c] 35 #[.int .i64 t.a, .int .i64 t.b, .int .i64 t.half, .int .i64 t.peak] 94 V) (by kernel_rfl) (HBX.out.drew) (fun hS => ?_)
  simp only [List.size_toArray, List.length_cons, List.length_nil, Nat.reduceAdd, Array.replicate_succ, Array.replicate_zero, List.push_toArray, List.nil_append, List.cons_append]
  refine tkH (i := 0) (v := ?_) (fun V hV => ?_) ?_
  rotate_left
  · have e0 := (StoAt.of hV.cell1).c0; have e1 := (StoAt.of hV.cell1).c1; have e2 := (StoAt.of hV.cell1).c2; have e3 := (StoAt.of hV.cell1).c3; have e4 := (StoAt.of hV.cell1).c4; have e5 := (StoAt.of hV.cell1).c5; have e6 := (StoAt.of hV.cell1).c6; have e7 := (StoAt.of hV.cell1).c7; have e8 := (StoAt.of hV.cell1).c8; have e9 := (StoAt.of hV.cell1).c9; have e10 := (StoAt.of hV.cell1).c10; have e11 := (StoAt.of hV.cell1).c11; go_simp
    try with_reducible rfl
  try simp only [Act.put, List.getElem_toArray, List.getElem_cons_zero, List.setIfInBounds_toArray, List.set_cons_zero, List.set_cons_succ]
  refine wpAnyH_ready (rs := [1]) (by kernel_rfl) (by simp) ?_
  refine AllReadyH.cons (o := _) rfl (fun K hK => ?_) AllReadyH.nil
  go_simp
  (with_reducible refine (HCK.out _ hS.below).mono ?_)
  rintro e v1 ⟨rfl, hb⟩
  rw [H0.out]
  refine hK.out _ _ (hS.step1 hb) (fun hS => ?_)
  clear hK K
  try simp only [List.setIfInBounds_toArray, List.set_cons_zero, List.set_cons_succ]
  refine tkH (i := 2) (v := ?_) (fun V hV => ?_) ?_
  rotate_left
  · go_simp
    try with_reducible rfl
  try simp only [Act.put, List.getElem_toArray, List.getElem_cons_zero, List.getElem_cons_succ, List.setIfInBounds_toArray, List.set_cons_zero, List.set_cons_succ]
  refine tkH (i := 3) (v := ?_) (fun V hV => ?_) ?_
  rotate_left
  · go_simp
    try with_reducible rfl
  try simp only [Act.put, List.getElem_toArray, List.getElem_cons_zero, List.getElem_cons_succ, List.setIfInBounds_toArray, List.set_cons_zero, List.set_cons_succ]
  refine tkH (i := 4) (v := ?_) (fun V hV => ?_) ?_
  rotate_left
  · go_simp
    try with_reducible rfl
  try simp only [Act.put, List.getElem_toArray, List.getElem_cons_zero, List.getElem_cons_succ, List.setIfInBounds_toArray, List.set_cons_zero, List.set_cons_succ]
  refine tkH (i := 5) (v := ?_) (fun V hV => ?_) ?_
  rotate_left
  · have e3 := (StoAt.of hV.cell1).c3; have e4 := (StoAt.of hV.cell1).c4; have e5 := (StoAt.of hV.cell1).c5; have e6 := (StoAt.of hV.cell1).c6; have e7 := (StoAt.of hV.cell1).c7; have e8 := (StoAt.of hV.cell1).c8; have e9 := (StoAt.of hV.cell1).c9; have e10 := (StoAt.of hV.cell1).c10; go_simp
    try with_reducible rfl
  try simp only [Act.put, List.getElem_toArray, List.getElem_cons_zero, List.getElem_cons_succ, List.setIfInBounds_toArray, List.set_cons_zero, List.set_cons_succ]
  refine tkH (i := 6) (v := ?_) (fun V hV => ?_) ?_
  rotate_left
  · go_simp
    try with_reducible rfl
  try simp only [Act.put, List.getElem_toArray, List.getElem_cons_zero, List.getElem_cons_succ, List.setIfInBounds_toArray, List.set_cons_zero, List.set_cons_succ]
  refine tkH (i := 7) (v := ?_) (fun V hV => ?_) ?_
  rotate_left
  · have f0 := (TruAt.of hV.cell2).c0; have f1 := (TruAt.of hV.cell2).c1; have f2 := (TruAt.of hV.cell2).c2; have f3 := (TruAt.of hV.cell2).c3; go_simp
    try with_reducible rfl
  try simp only [Act.put, List.getElem_toArray, List.getElem_cons_zero, List.getElem_cons_succ, List.setIfInBounds_toArray, List.set_cons_zero, List.set_cons_succ]
  refine wpAnyH_ready (rs := [8]) (by kernel_rfl) (by simp) ?_
  refine AllReadyH.cons (o := _) rfl (fun K hK => ?_) AllReadyH.nil
  go_simp
  (with_reducible refine (has_any s.a t.a _).mono ?_)
  rintro e v2 ⟨rfl, hb⟩
  rw [HB0.out]
  refine hK.out _ _ (hS.step1 hb) (fun hS => ?_)
  clear hK K
  try simp only [List.setIfInBounds_toArray, List.set_cons_zero, List.set_cons_succ]
  refine tkH (i := 9) (v := ?_) (fun V hV => ?_) ?_
  rotate_left
  · go_simp
    try with_reducible rfl
  try simp only [Act.put, List.getElem_toArray, List.getElem_cons_zero, List.getElem_cons_succ, List.setIfInBounds_toArray, List.set_cons_zero, List.set_cons_succ]
  refine tkH (i := 10) (v := ?_) (fun V hV => ?_) ?_
  rotate_left
  · go_simp
    try with_reducible rfl
  try simp only [Act.put, List.getElem_toArray, List.getElem_cons_zero, List.getElem_cons_succ, List.setIfInBounds_toArray, List.set_cons_zero, List.set_cons_succ]
  refine tkU (i := 11) ?_
  try simp only [Act.put, List.getElem_toArray, List.getElem_cons_zero, List.getElem_cons_succ, List.setIfInBounds_toArray, List.set_cons_zero, List.set_cons_succ]
  refine tkU (i := 12) ?_
  try simp only [Act.put, List.getElem_toArray, List.getElem_cons_zero, List.getElem_cons_succ, List.setIfInBounds_toArray, List.set_cons_zero, List.set_cons_succ]
  refine tkU (i := 13) ?_
  try simp only [Act.put, List.getElem_toArray, List.getElem_cons_zero, List.getElem_cons_succ, List.setIfInBounds_toArray, List.set_cons_zero, List.set_cons_succ]
  refine tkU (i := 14) ?_
  try simp only [Act.put, List.getElem_toArray, List.getElem_cons_zero, List.getElem_cons_succ, List.setIfInBounds_toArray, List.set_cons_zero, List.set_cons_succ]
  refine tkU (i := 15) ?_
  try simp only [Act.put, List.getElem_toArray, List.getElem_cons_zero, List.getElem_cons_succ, List.setIfInBounds_toArray, List.set_cons_zero, List.set_cons_succ]
  refine tkH (i := 16) (v := ?_) (fun V hV => ?_) ?_
  rotate_left
  · go_simp
    try with_reducible rfl
  try simp only [Act.put, List.getElem_toArray, List.getElem_cons_zero, List.getElem_cons_succ, List.setIfInBounds_toArray, List.set_cons_zero, List.set_cons_succ]
  refine tkH (i := 17) (v := ?_) (fun V hV => ?_) ?_
  rotate_left
  · go_simp
    try with_reducible rfl
  try simp only [Act.put, List.getElem_toArray, List.getElem_cons_zero, List.getElem_cons_succ, List.setIfInBounds_toArray, List.set_cons_zero, List.set_cons_succ]
  refine tkU (i := 18) ?_
  try simp only [Act.put, List.getElem_toArray, List.getElem_cons_zero, List.getElem_cons_succ, List.setIfInBounds_toArray, List.set_cons_zero, List.set_cons_succ]
  refine tkU (i := 19) ?_
  try simp only [Act.put, List.getElem_toArray, List.getElem_cons_zero, List.getElem_cons_succ, List.setIfInBounds_toArray, List.set_cons_zero, List.set_cons_succ]
  refine tkU (i := 20) ?_
  try simp only [Act.put, List.getElem_toArray, List.getElem_cons_zero, List.getElem_cons_succ, List.setIfInBounds_toArray, List.set_cons_zero, List.set_cons_succ]
  refine tkU (i := 21) ?_
  try simp only [Act.put, List.getElem_toArray, List.getElem_cons_zero, List.getElem_cons_succ, List.setIfInBounds_toArray, List.set_cons_zero, List.set_cons_succ]
  refine tkU (i := 22) ?_
  try simp only [Act.put, List.getElem_toArray, List.getElem_cons_zero, List.getElem_cons_succ, List.setIfInBounds_toArray, List.set_cons_zero, List.set_cons_succ]
  refine tkH (i := 23) (v := ?_) (fun V hV => ?_) ?_
  rotate_left
  · go_simp
    try with_reducible rfl
  try simp only [Act.put, List.getElem_toArray, List.getElem_cons_zero, List.getElem_cons_succ, List.setIfInBounds_toArray, List.set_cons_zero, List.set_cons_succ]
  refine tkH (i := 24) (v := ?_) (fun V hV => ?_) ?_
  rotate_left
  · go_simp
    try with_reducible rfl
  try simp only [Act.put, List.getElem_toArray, List.getElem_cons_zero, List.getElem_cons_succ, List.setIfInBounds_toArray, List.set_cons_zero, List.set_cons_succ]
  refine tkU (i := 25) ?_
  try simp only [Act.put, List.getElem_toArray, List.getElem_cons_zero, List.getElem_cons_succ, List.setIfInBounds_toArray, List.set_cons_zero, List.set_cons_succ]
  refine tkU (i := 26) ?_
  try simp only [Act.put, List.getElem_toArray, List.getElem_cons_zero, List.getElem_cons_succ, List.setIfInBounds_toArray, List.set_cons_zero, List.set_cons_succ]
  refine tkU (i := 27) ?_
  try simp only [Act.put, List.getElem_toArray, List.getElem_cons_zero, List.getElem_cons_succ, List.setIfInBounds_toArray, List.set_cons_zero, List.set_cons_succ]
  refine tkU (i := 28) ?_
  try simp only [Act.put, List.getElem_toArray, List.getElem_cons_zero, List.getElem_cons_succ, List.setIfInBounds_toArray, List.set_cons_zero, List.set_cons_succ]
  refine tkU (i := 29) ?_
  try simp only [Act.put, List.getElem_toArray, List.getElem_cons_zero, List.getElem_cons_succ, List.setIfInBounds_toArray, List.set_cons_zero, List.set_cons_succ]
  refine tkH (i := 30) (v := ?_) (fun V hV => ?_) ?_
  rotate_left
  · go_simp
    try with_reducible rfl
  try simp only [Act.put, List.getElem_toArray, List.getElem_cons_zero, List.getElem_cons_succ, List.setIfInBounds_toArray, List.set_cons_zero, List.set_cons_succ]
  refine tkH (i := 31) (v := ?_) (fun V hV => ?_) ?_
  rotate_left
  · go_simp
    try with_reducible rfl
  try simp only [Act.put, List.getElem_toArray, List.getElem_cons_zero, List.getElem_cons_succ, List.setIfInBounds_toArray, List.set_cons_zero, List.set_cons_succ]
  refine tkU (i := 32) ?_
  try simp only [Act.put, List.getElem_toArray, List.getElem_cons_zero, List.getElem_cons_succ, List.setIfInBounds_toArray, List.set_cons_zero, List.set_cons_succ]
  refine tkU (i := 33) ?_
  try simp only [Act.put, List.getElem_toArray, List.getElem_cons_zero, List.getElem_cons_succ, List.setIfInBounds_toArray, List.set_cons_zero, List.set_cons_succ]
  refine tkU (i := 34) ?_
  try simp only [Act.put, List.getElem_toArray, List.getElem_cons_zero, List.getElem_cons_succ, List.setIfInBounds_toArray, List.set_cons_zero, List.set_cons_succ]
  refine tkU (i := 35) ?_
  try simp only [Act.put, List.getElem_toArray, List.getElem_cons_zero, List.getElem_cons_succ, List.setIfInBounds_toArray, List.set_cons_zero, List.set_cons_succ]
  refine tkU (i := 36) ?_
  try simp only [Act.put, List.getElem_toArray, List.getElem_cons_zero, List.getElem_cons_succ, List.setIfInBounds_toArray, List.set_cons_zero, List.set_cons_succ]
  refine tkU (i := 37) ?_
  try simp only [Act.put, List.getElem_toArray, List.getElem_cons_zero, List.getElem_cons_succ, List.setIfInBounds_toArray, List.set_cons_zero, List.set_cons_succ]
  refine tkH (i := 38) (v := ?_) (fun V hV => ?_) ?_
  rotate_left
  · go_simp
    try with_reducible rfl
  try simp only [Act.put, List.getElem_toArray, List.getElem_cons_zero, List.getElem_cons_succ, List.setIfInBounds_toArray, List.set_cons_zero, List.set_cons_succ]
  refine tkH (i := 39) (v := ?_) (fun V hV => ?_) ?_
  rotate_left
  · go_simp
    try with_reducible rfl
  try simp only [Act.put, List.getElem_toArray, List.getElem_cons_zero, List.getElem_cons_succ, List.setIfInBounds_toArray, List.set_cons_zero, List.set_cons_succ]
  refine wpAnyH_done (by kernel_rfl) ?_ _
  have HS9 := hid hS
  clear hS
  go_wp2_with fail
  go_ret
  exact ⟨by rw [HRES.out]; rfl, HS9.out.below⟩

set_option maxRecDepth 40000 in
set_option maxHeartbeats 4000000 in
theorem prove2 (s : Sto) (p : Option Addr) (n c : Nat) (t : Tru) (w : World) (hcs : CrdsAt w p n s.cards) (h0 : faultS s = 0) (hb0 : inB t.a s.a.lo s.a.hi = true) (hb1 : inB t.b s.b.lo s.b.hi = false) :
    Calls Try.prog 52 #[.agg #[.int .i64 s.wide, .int .i64 s.high, .int .i64 s.fall, .int .i64 s.a.lo, .int .i64 s.a.hi, .int .i64 s.b.lo, .int .i64 s.b.hi, .int .i64 s.half.lo, .int .i64 s.half.hi, .int .i64 s.peak.lo, .int .i64 s.peak.hi, .slice p n c], .agg #[.int .i64 t.a, .int .i64 t.b, .int .i64 t.half, .int .i64 t.peak]] w fun e w' => e = .returned (.bool (provedB s t)) ∧ Below w.heap.size w w' := by
  have HC := hid hcs
  have HCK := hid (fun W (hb : Below w.heap.size w W) => checkStorm_any s p n c W (hcs.below hb))
  clear hcs
  have H0 := hid h0
  have HB0 := hid hb0
  have HB1 := hid hb1
  have HRES : Hid (provedB s t = false) := hid (by rw [provedB, truB, hb0, hb1]; simp)
  clear h0 hb0 hb1
  have HBX : Hid (Boxed2 w #[.int .i64 s.wide, .int .i64 s.high, .int .i64 s.fall, .int .i64 s.a.lo, .int .i64 s.a.hi, .int .i64 s.b.lo, .int .i64 s.b.hi, .int .i64 s.half.lo, .int .i64 s.half.hi, .int .i64 s.peak.lo, .int .i64 s.peak.hi, .slice p n c] 35 #[.int .i64 t.a, .int .i64 t.b, .int .i64 t.half, .int .i64 t.peak] 94 ((w.alloc (.cells #[.int .i64 s.wide, .int .i64 s.high, .int .i64 s.fall, .int .i64 s.a.lo, .int .i64 s.a.hi, .int .i64 s.b.lo, .int .i64 s.b.hi, .int .i64 s.half.lo, .int .i64 s.half.hi, .int .i64 s.peak.lo, .int .i64 s.peak.hi, .slice p n c] 35)).alloc (.cells #[.int .i64 t.a, .int .i64 t.b, .int .i64 t.half, .int .i64 t.peak] 94))) := hid (Below.refl _ _)
  go_enter Try.func52, Try.ntmps52
  go_upto_region 1 with fail
  refine wp_region_held_drew (S := fun V => Boxed2 w #[.int .i64 s.wide, .int .i64 s.high, .int .i64 s.fall, .int .i64 s.a.lo, .int .i64 s.a.hi, .int .i64 s.b.lo, .int .i64 s.b.hi, .int .i64 s.half.lo, .int .i64 s.half.hi, .int .i64 s.peak.lo, .int .i64 s.peak.hi, .slice p n c] 35 #[.int .i64 t.a, .int .i64 t.b, .int .i64 t.half, .int .i64 t.peak] 94 V) (by kernel_rfl) (HBX.out.drew) (fun hS => ?_)
  simp only [List.size_toArray, List.length_cons, List.length_nil, Nat.reduceAdd, Array.replicate_succ, Array.replicate_zero, List.push_toArray, List.nil_append, List.cons_append]
  refine tkH (i := 0) (v := ?_) (fun V hV => ?_) ?_
  rotate_left
  · have e0 := (StoAt.of hV.cell1).c0; have e1 := (StoAt.of hV.cell1).c1; have e2 := (StoAt.of hV.cell1).c2; have e3 := (StoAt.of hV.cell1).c3; have e4 := (StoAt.of hV.cell1).c4; have e5 := (StoAt.of hV.cell1).c5; have e6 := (StoAt.of hV.cell1).c6; have e7 := (StoAt.of hV.cell1).c7; have e8 := (StoAt.of hV.cell1).c8; have e9 := (StoAt.of hV.cell1).c9; have e10 := (StoAt.of hV.cell1).c10; have e11 := (StoAt.of hV.cell1).c11; go_simp
    try with_reducible rfl
  try simp only [Act.put, List.getElem_toArray, List.getElem_cons_zero, List.setIfInBounds_toArray, List.set_cons_zero, List.set_cons_succ]
  refine wpAnyH_ready (rs := [1]) (by kernel_rfl) (by simp) ?_
  refine AllReadyH.cons (o := _) rfl (fun K hK => ?_) AllReadyH.nil
  go_simp
  (with_reducible refine (HCK.out _ hS.below).mono ?_)
  rintro e v1 ⟨rfl, hb⟩
  rw [H0.out]
  refine hK.out _ _ (hS.step1 hb) (fun hS => ?_)
  clear hK K
  try simp only [List.setIfInBounds_toArray, List.set_cons_zero, List.set_cons_succ]
  refine tkH (i := 2) (v := ?_) (fun V hV => ?_) ?_
  rotate_left
  · go_simp
    try with_reducible rfl
  try simp only [Act.put, List.getElem_toArray, List.getElem_cons_zero, List.getElem_cons_succ, List.setIfInBounds_toArray, List.set_cons_zero, List.set_cons_succ]
  refine tkH (i := 3) (v := ?_) (fun V hV => ?_) ?_
  rotate_left
  · go_simp
    try with_reducible rfl
  try simp only [Act.put, List.getElem_toArray, List.getElem_cons_zero, List.getElem_cons_succ, List.setIfInBounds_toArray, List.set_cons_zero, List.set_cons_succ]
  refine tkH (i := 4) (v := ?_) (fun V hV => ?_) ?_
  rotate_left
  · go_simp
    try with_reducible rfl
  try simp only [Act.put, List.getElem_toArray, List.getElem_cons_zero, List.getElem_cons_succ, List.setIfInBounds_toArray, List.set_cons_zero, List.set_cons_succ]
  refine tkH (i := 5) (v := ?_) (fun V hV => ?_) ?_
  rotate_left
  · have e3 := (StoAt.of hV.cell1).c3; have e4 := (StoAt.of hV.cell1).c4; have e5 := (StoAt.of hV.cell1).c5; have e6 := (StoAt.of hV.cell1).c6; have e7 := (StoAt.of hV.cell1).c7; have e8 := (StoAt.of hV.cell1).c8; have e9 := (StoAt.of hV.cell1).c9; have e10 := (StoAt.of hV.cell1).c10; go_simp
    try with_reducible rfl
  try simp only [Act.put, List.getElem_toArray, List.getElem_cons_zero, List.getElem_cons_succ, List.setIfInBounds_toArray, List.set_cons_zero, List.set_cons_succ]
  refine tkH (i := 6) (v := ?_) (fun V hV => ?_) ?_
  rotate_left
  · go_simp
    try with_reducible rfl
  try simp only [Act.put, List.getElem_toArray, List.getElem_cons_zero, List.getElem_cons_succ, List.setIfInBounds_toArray, List.set_cons_zero, List.set_cons_succ]
  refine tkH (i := 7) (v := ?_) (fun V hV => ?_) ?_
  rotate_left
  · have f0 := (TruAt.of hV.cell2).c0; have f1 := (TruAt.of hV.cell2).c1; have f2 := (TruAt.of hV.cell2).c2; have f3 := (TruAt.of hV.cell2).c3; go_simp
    try with_reducible rfl
  try simp only [Act.put, List.getElem_toArray, List.getElem_cons_zero, List.getElem_cons_succ, List.setIfInBounds_toArray, List.set_cons_zero, List.set_cons_succ]
  refine wpAnyH_ready (rs := [8]) (by kernel_rfl) (by simp) ?_
  refine AllReadyH.cons (o := _) rfl (fun K hK => ?_) AllReadyH.nil
  go_simp
  (with_reducible refine (has_any s.a t.a _).mono ?_)
  rintro e v2 ⟨rfl, hb⟩
  rw [HB0.out]
  refine hK.out _ _ (hS.step1 hb) (fun hS => ?_)
  clear hK K
  try simp only [List.setIfInBounds_toArray, List.set_cons_zero, List.set_cons_succ]
  refine tkH (i := 9) (v := ?_) (fun V hV => ?_) ?_
  rotate_left
  · go_simp
    try with_reducible rfl
  try simp only [Act.put, List.getElem_toArray, List.getElem_cons_zero, List.getElem_cons_succ, List.setIfInBounds_toArray, List.set_cons_zero, List.set_cons_succ]
  refine tkH (i := 10) (v := ?_) (fun V hV => ?_) ?_
  rotate_left
  · go_simp
    try with_reducible rfl
  try simp only [Act.put, List.getElem_toArray, List.getElem_cons_zero, List.getElem_cons_succ, List.setIfInBounds_toArray, List.set_cons_zero, List.set_cons_succ]
  refine tkH (i := 11) (v := ?_) (fun V hV => ?_) ?_
  rotate_left
  · go_simp
    try with_reducible rfl
  try simp only [Act.put, List.getElem_toArray, List.getElem_cons_zero, List.getElem_cons_succ, List.setIfInBounds_toArray, List.set_cons_zero, List.set_cons_succ]
  refine tkH (i := 12) (v := ?_) (fun V hV => ?_) ?_
  rotate_left
  · have e3 := (StoAt.of hV.cell1).c3; have e4 := (StoAt.of hV.cell1).c4; have e5 := (StoAt.of hV.cell1).c5; have e6 := (StoAt.of hV.cell1).c6; have e7 := (StoAt.of hV.cell1).c7; have e8 := (StoAt.of hV.cell1).c8; have e9 := (StoAt.of hV.cell1).c9; have e10 := (StoAt.of hV.cell1).c10; go_simp
    try with_reducible rfl
  try simp only [Act.put, List.getElem_toArray, List.getElem_cons_zero, List.getElem_cons_succ, List.setIfInBounds_toArray, List.set_cons_zero, List.set_cons_succ]
  refine tkH (i := 13) (v := ?_) (fun V hV => ?_) ?_
  rotate_left
  · go_simp
    try with_reducible rfl
  try simp only [Act.put, List.getElem_toArray, List.getElem_cons_zero, List.getElem_cons_succ, List.setIfInBounds_toArray, List.set_cons_zero, List.set_cons_succ]
  refine tkH (i := 14) (v := ?_) (fun V hV => ?_) ?_
  rotate_left
  · have f0 := (TruAt.of hV.cell2).c0; have f1 := (TruAt.of hV.cell2).c1; have f2 := (TruAt.of hV.cell2).c2; have f3 := (TruAt.of hV.cell2).c3; go_simp
    try with_reducible rfl
  try simp only [Act.put, List.getElem_toArray, List.getElem_cons_zero, List.getElem_cons_succ, List.setIfInBounds_toArray, List.set_cons_zero, List.set_cons_succ]
  refine wpAnyH_ready (rs := [15]) (by kernel_rfl) (by simp) ?_
  refine AllReadyH.cons (o := _) rfl (fun K hK => ?_) AllReadyH.nil
  go_simp
  (with_reducible refine (has_any s.b t.b _).mono ?_)
  rintro e v3 ⟨rfl, hb⟩
  rw [HB1.out]
  refine hK.out _ _ (hS.step1 hb) (fun hS => ?_)
  clear hK K
  try simp only [List.setIfInBounds_toArray, List.set_cons_zero, List.set_cons_succ]
  refine tkH (i := 16) (v := ?_) (fun V hV => ?_) ?_
  rotate_left
  · go_simp
    try with_reducible rfl
  try simp only [Act.put, List.getElem_toArray, List.getElem_cons_zero, List.getElem_cons_succ, List.setIfInBounds_toArray, List.set_cons_zero, List.set_cons_succ]
  refine tkH (i := 17) (v := ?_) (fun V hV => ?_) ?_
  rotate_left
  · go_simp
    try with_reducible rfl
  try simp only [Act.put, List.getElem_toArray, List.getElem_cons_zero, List.getElem_cons_succ, List.setIfInBounds_toArray, List.set_cons_zero, List.set_cons_succ]
  refine tkU (i := 18) ?_
  try simp only [Act.put, List.getElem_toArray, List.getElem_cons_zero, List.getElem_cons_succ, List.setIfInBounds_toArray, List.set_cons_zero, List.set_cons_succ]
  refine tkU (i := 19) ?_
  try simp only [Act.put, List.getElem_toArray, List.getElem_cons_zero, List.getElem_cons_succ, List.setIfInBounds_toArray, List.set_cons_zero, List.set_cons_succ]
  refine tkU (i := 20) ?_
  try simp only [Act.put, List.getElem_toArray, List.getElem_cons_zero, List.getElem_cons_succ, List.setIfInBounds_toArray, List.set_cons_zero, List.set_cons_succ]
  refine tkU (i := 21) ?_
  try simp only [Act.put, List.getElem_toArray, List.getElem_cons_zero, List.getElem_cons_succ, List.setIfInBounds_toArray, List.set_cons_zero, List.set_cons_succ]
  refine tkU (i := 22) ?_
  try simp only [Act.put, List.getElem_toArray, List.getElem_cons_zero, List.getElem_cons_succ, List.setIfInBounds_toArray, List.set_cons_zero, List.set_cons_succ]
  refine tkH (i := 23) (v := ?_) (fun V hV => ?_) ?_
  rotate_left
  · go_simp
    try with_reducible rfl
  try simp only [Act.put, List.getElem_toArray, List.getElem_cons_zero, List.getElem_cons_succ, List.setIfInBounds_toArray, List.set_cons_zero, List.set_cons_succ]
  refine tkH (i := 24) (v := ?_) (fun V hV => ?_) ?_
  rotate_left
  · go_simp
    try with_reducible rfl
  try simp only [Act.put, List.getElem_toArray, List.getElem_cons_zero, List.getElem_cons_succ, List.setIfInBounds_toArray, List.set_cons_zero, List.set_cons_succ]
  refine tkU (i := 25) ?_
  try simp only [Act.put, List.getElem_toArray, List.getElem_cons_zero, List.getElem_cons_succ, List.setIfInBounds_toArray, List.set_cons_zero, List.set_cons_succ]
  refine tkU (i := 26) ?_
  try simp only [Act.put, List.getElem_toArray, List.getElem_cons_zero, List.getElem_cons_succ, List.setIfInBounds_toArray, List.set_cons_zero, List.set_cons_succ]
  refine tkU (i := 27) ?_
  try simp only [Act.put, List.getElem_toArray, List.getElem_cons_zero, List.getElem_cons_succ, List.setIfInBounds_toArray, List.set_cons_zero, List.set_cons_succ]
  refine tkU (i := 28) ?_
  try simp only [Act.put, List.getElem_toArray, List.getElem_cons_zero, List.getElem_cons_succ, List.setIfInBounds_toArray, List.set_cons_zero, List.set_cons_succ]
  refine tkU (i := 29) ?_
  try simp only [Act.put, List.getElem_toArray, List.getElem_cons_zero, List.getElem_cons_succ, List.setIfInBounds_toArray, List.set_cons_zero, List.set_cons_succ]
  refine tkH (i := 30) (v := ?_) (fun V hV => ?_) ?_
  rotate_left
  · go_simp
    try with_reducible rfl
  try simp only [Act.put, List.getElem_toArray, List.getElem_cons_zero, List.getElem_cons_succ, List.setIfInBounds_toArray, List.set_cons_zero, List.set_cons_succ]
  refine tkH (i := 31) (v := ?_) (fun V hV => ?_) ?_
  rotate_left
  · go_simp
    try with_reducible rfl
  try simp only [Act.put, List.getElem_toArray, List.getElem_cons_zero, List.getElem_cons_succ, List.setIfInBounds_toArray, List.set_cons_zero, List.set_cons_succ]
  refine tkU (i := 32) ?_
  try simp only [Act.put, List.getElem_toArray, List.getElem_cons_zero, List.getElem_cons_succ, List.setIfInBounds_toArray, List.set_cons_zero, List.set_cons_succ]
  refine tkU (i := 33) ?_
  try simp only [Act.put, List.getElem_toArray, List.getElem_cons_zero, List.getElem_cons_succ, List.setIfInBounds_toArray, List.set_cons_zero, List.set_cons_succ]
  refine tkU (i := 34) ?_
  try simp only [Act.put, List.getElem_toArray, List.getElem_cons_zero, List.getElem_cons_succ, List.setIfInBounds_toArray, List.set_cons_zero, List.set_cons_succ]
  refine tkU (i := 35) ?_
  try simp only [Act.put, List.getElem_toArray, List.getElem_cons_zero, List.getElem_cons_succ, List.setIfInBounds_toArray, List.set_cons_zero, List.set_cons_succ]
  refine tkU (i := 36) ?_
  try simp only [Act.put, List.getElem_toArray, List.getElem_cons_zero, List.getElem_cons_succ, List.setIfInBounds_toArray, List.set_cons_zero, List.set_cons_succ]
  refine tkU (i := 37) ?_
  try simp only [Act.put, List.getElem_toArray, List.getElem_cons_zero, List.getElem_cons_succ, List.setIfInBounds_toArray, List.set_cons_zero, List.set_cons_succ]
  refine tkH (i := 38) (v := ?_) (fun V hV => ?_) ?_
  rotate_left
  · go_simp
    try with_reducible rfl
  try simp only [Act.put, List.getElem_toArray, List.getElem_cons_zero, List.getElem_cons_succ, List.setIfInBounds_toArray, List.set_cons_zero, List.set_cons_succ]
  refine tkH (i := 39) (v := ?_) (fun V hV => ?_) ?_
  rotate_left
  · go_simp
    try with_reducible rfl
  try simp only [Act.put, List.getElem_toArray, List.getElem_cons_zero, List.getElem_cons_succ, List.setIfInBounds_toArray, List.set_cons_zero, List.set_cons_succ]
  refine wpAnyH_done (by kernel_rfl) ?_ _
  have HS9 := hid hS
  clear hS
  go_wp2_with fail
  go_ret
  exact ⟨by rw [HRES.out]; rfl, HS9.out.below⟩

set_option maxRecDepth 40000 in
set_option maxHeartbeats 4000000 in
theorem prove3 (s : Sto) (p : Option Addr) (n c : Nat) (t : Tru) (w : World) (hcs : CrdsAt w p n s.cards) (h0 : faultS s = 0) (hb0 : inB t.a s.a.lo s.a.hi = true) (hb1 : inB t.b s.b.lo s.b.hi = true) (hb2 : inB t.half s.half.lo s.half.hi = false) :
    Calls Try.prog 52 #[.agg #[.int .i64 s.wide, .int .i64 s.high, .int .i64 s.fall, .int .i64 s.a.lo, .int .i64 s.a.hi, .int .i64 s.b.lo, .int .i64 s.b.hi, .int .i64 s.half.lo, .int .i64 s.half.hi, .int .i64 s.peak.lo, .int .i64 s.peak.hi, .slice p n c], .agg #[.int .i64 t.a, .int .i64 t.b, .int .i64 t.half, .int .i64 t.peak]] w fun e w' => e = .returned (.bool (provedB s t)) ∧ Below w.heap.size w w' := by
  have HC := hid hcs
  have HCK := hid (fun W (hb : Below w.heap.size w W) => checkStorm_any s p n c W (hcs.below hb))
  clear hcs
  have H0 := hid h0
  have HB0 := hid hb0
  have HB1 := hid hb1
  have HB2 := hid hb2
  have HRES : Hid (provedB s t = false) := hid (by rw [provedB, truB, hb0, hb1, hb2]; simp)
  clear h0 hb0 hb1 hb2
  have HBX : Hid (Boxed2 w #[.int .i64 s.wide, .int .i64 s.high, .int .i64 s.fall, .int .i64 s.a.lo, .int .i64 s.a.hi, .int .i64 s.b.lo, .int .i64 s.b.hi, .int .i64 s.half.lo, .int .i64 s.half.hi, .int .i64 s.peak.lo, .int .i64 s.peak.hi, .slice p n c] 35 #[.int .i64 t.a, .int .i64 t.b, .int .i64 t.half, .int .i64 t.peak] 94 ((w.alloc (.cells #[.int .i64 s.wide, .int .i64 s.high, .int .i64 s.fall, .int .i64 s.a.lo, .int .i64 s.a.hi, .int .i64 s.b.lo, .int .i64 s.b.hi, .int .i64 s.half.lo, .int .i64 s.half.hi, .int .i64 s.peak.lo, .int .i64 s.peak.hi, .slice p n c] 35)).alloc (.cells #[.int .i64 t.a, .int .i64 t.b, .int .i64 t.half, .int .i64 t.peak] 94))) := hid (Below.refl _ _)
  go_enter Try.func52, Try.ntmps52
  go_upto_region 1 with fail
  refine wp_region_held_drew (S := fun V => Boxed2 w #[.int .i64 s.wide, .int .i64 s.high, .int .i64 s.fall, .int .i64 s.a.lo, .int .i64 s.a.hi, .int .i64 s.b.lo, .int .i64 s.b.hi, .int .i64 s.half.lo, .int .i64 s.half.hi, .int .i64 s.peak.lo, .int .i64 s.peak.hi, .slice p n c] 35 #[.int .i64 t.a, .int .i64 t.b, .int .i64 t.half, .int .i64 t.peak] 94 V) (by kernel_rfl) (HBX.out.drew) (fun hS => ?_)
  simp only [List.size_toArray, List.length_cons, List.length_nil, Nat.reduceAdd, Array.replicate_succ, Array.replicate_zero, List.push_toArray, List.nil_append, List.cons_append]
  refine tkH (i := 0) (v := ?_) (fun V hV => ?_) ?_
  rotate_left
  · have e0 := (StoAt.of hV.cell1).c0; have e1 := (StoAt.of hV.cell1).c1; have e2 := (StoAt.of hV.cell1).c2; have e3 := (StoAt.of hV.cell1).c3; have e4 := (StoAt.of hV.cell1).c4; have e5 := (StoAt.of hV.cell1).c5; have e6 := (StoAt.of hV.cell1).c6; have e7 := (StoAt.of hV.cell1).c7; have e8 := (StoAt.of hV.cell1).c8; have e9 := (StoAt.of hV.cell1).c9; have e10 := (StoAt.of hV.cell1).c10; have e11 := (StoAt.of hV.cell1).c11; go_simp
    try with_reducible rfl
  try simp only [Act.put, List.getElem_toArray, List.getElem_cons_zero, List.setIfInBounds_toArray, List.set_cons_zero, List.set_cons_succ]
  refine wpAnyH_ready (rs := [1]) (by kernel_rfl) (by simp) ?_
  refine AllReadyH.cons (o := _) rfl (fun K hK => ?_) AllReadyH.nil
  go_simp
  (with_reducible refine (HCK.out _ hS.below).mono ?_)
  rintro e v1 ⟨rfl, hb⟩
  rw [H0.out]
  refine hK.out _ _ (hS.step1 hb) (fun hS => ?_)
  clear hK K
  try simp only [List.setIfInBounds_toArray, List.set_cons_zero, List.set_cons_succ]
  refine tkH (i := 2) (v := ?_) (fun V hV => ?_) ?_
  rotate_left
  · go_simp
    try with_reducible rfl
  try simp only [Act.put, List.getElem_toArray, List.getElem_cons_zero, List.getElem_cons_succ, List.setIfInBounds_toArray, List.set_cons_zero, List.set_cons_succ]
  refine tkH (i := 3) (v := ?_) (fun V hV => ?_) ?_
  rotate_left
  · go_simp
    try with_reducible rfl
  try simp only [Act.put, List.getElem_toArray, List.getElem_cons_zero, List.getElem_cons_succ, List.setIfInBounds_toArray, List.set_cons_zero, List.set_cons_succ]
  refine tkH (i := 4) (v := ?_) (fun V hV => ?_) ?_
  rotate_left
  · go_simp
    try with_reducible rfl
  try simp only [Act.put, List.getElem_toArray, List.getElem_cons_zero, List.getElem_cons_succ, List.setIfInBounds_toArray, List.set_cons_zero, List.set_cons_succ]
  refine tkH (i := 5) (v := ?_) (fun V hV => ?_) ?_
  rotate_left
  · have e3 := (StoAt.of hV.cell1).c3; have e4 := (StoAt.of hV.cell1).c4; have e5 := (StoAt.of hV.cell1).c5; have e6 := (StoAt.of hV.cell1).c6; have e7 := (StoAt.of hV.cell1).c7; have e8 := (StoAt.of hV.cell1).c8; have e9 := (StoAt.of hV.cell1).c9; have e10 := (StoAt.of hV.cell1).c10; go_simp
    try with_reducible rfl
  try simp only [Act.put, List.getElem_toArray, List.getElem_cons_zero, List.getElem_cons_succ, List.setIfInBounds_toArray, List.set_cons_zero, List.set_cons_succ]
  refine tkH (i := 6) (v := ?_) (fun V hV => ?_) ?_
  rotate_left
  · go_simp
    try with_reducible rfl
  try simp only [Act.put, List.getElem_toArray, List.getElem_cons_zero, List.getElem_cons_succ, List.setIfInBounds_toArray, List.set_cons_zero, List.set_cons_succ]
  refine tkH (i := 7) (v := ?_) (fun V hV => ?_) ?_
  rotate_left
  · have f0 := (TruAt.of hV.cell2).c0; have f1 := (TruAt.of hV.cell2).c1; have f2 := (TruAt.of hV.cell2).c2; have f3 := (TruAt.of hV.cell2).c3; go_simp
    try with_reducible rfl
  try simp only [Act.put, List.getElem_toArray, List.getElem_cons_zero, List.getElem_cons_succ, List.setIfInBounds_toArray, List.set_cons_zero, List.set_cons_succ]
  refine wpAnyH_ready (rs := [8]) (by kernel_rfl) (by simp) ?_
  refine AllReadyH.cons (o := _) rfl (fun K hK => ?_) AllReadyH.nil
  go_simp
  (with_reducible refine (has_any s.a t.a _).mono ?_)
  rintro e v2 ⟨rfl, hb⟩
  rw [HB0.out]
  refine hK.out _ _ (hS.step1 hb) (fun hS => ?_)
  clear hK K
  try simp only [List.setIfInBounds_toArray, List.set_cons_zero, List.set_cons_succ]
  refine tkH (i := 9) (v := ?_) (fun V hV => ?_) ?_
  rotate_left
  · go_simp
    try with_reducible rfl
  try simp only [Act.put, List.getElem_toArray, List.getElem_cons_zero, List.getElem_cons_succ, List.setIfInBounds_toArray, List.set_cons_zero, List.set_cons_succ]
  refine tkH (i := 10) (v := ?_) (fun V hV => ?_) ?_
  rotate_left
  · go_simp
    try with_reducible rfl
  try simp only [Act.put, List.getElem_toArray, List.getElem_cons_zero, List.getElem_cons_succ, List.setIfInBounds_toArray, List.set_cons_zero, List.set_cons_succ]
  refine tkH (i := 11) (v := ?_) (fun V hV => ?_) ?_
  rotate_left
  · go_simp
    try with_reducible rfl
  try simp only [Act.put, List.getElem_toArray, List.getElem_cons_zero, List.getElem_cons_succ, List.setIfInBounds_toArray, List.set_cons_zero, List.set_cons_succ]
  refine tkH (i := 12) (v := ?_) (fun V hV => ?_) ?_
  rotate_left
  · have e3 := (StoAt.of hV.cell1).c3; have e4 := (StoAt.of hV.cell1).c4; have e5 := (StoAt.of hV.cell1).c5; have e6 := (StoAt.of hV.cell1).c6; have e7 := (StoAt.of hV.cell1).c7; have e8 := (StoAt.of hV.cell1).c8; have e9 := (StoAt.of hV.cell1).c9; have e10 := (StoAt.of hV.cell1).c10; go_simp
    try with_reducible rfl
  try simp only [Act.put, List.getElem_toArray, List.getElem_cons_zero, List.getElem_cons_succ, List.setIfInBounds_toArray, List.set_cons_zero, List.set_cons_succ]
  refine tkH (i := 13) (v := ?_) (fun V hV => ?_) ?_
  rotate_left
  · go_simp
    try with_reducible rfl
  try simp only [Act.put, List.getElem_toArray, List.getElem_cons_zero, List.getElem_cons_succ, List.setIfInBounds_toArray, List.set_cons_zero, List.set_cons_succ]
  refine tkH (i := 14) (v := ?_) (fun V hV => ?_) ?_
  rotate_left
  · have f0 := (TruAt.of hV.cell2).c0; have f1 := (TruAt.of hV.cell2).c1; have f2 := (TruAt.of hV.cell2).c2; have f3 := (TruAt.of hV.cell2).c3; go_simp
    try with_reducible rfl
  try simp only [Act.put, List.getElem_toArray, List.getElem_cons_zero, List.getElem_cons_succ, List.setIfInBounds_toArray, List.set_cons_zero, List.set_cons_succ]
  refine wpAnyH_ready (rs := [15]) (by kernel_rfl) (by simp) ?_
  refine AllReadyH.cons (o := _) rfl (fun K hK => ?_) AllReadyH.nil
  go_simp
  (with_reducible refine (has_any s.b t.b _).mono ?_)
  rintro e v3 ⟨rfl, hb⟩
  rw [HB1.out]
  refine hK.out _ _ (hS.step1 hb) (fun hS => ?_)
  clear hK K
  try simp only [List.setIfInBounds_toArray, List.set_cons_zero, List.set_cons_succ]
  refine tkH (i := 16) (v := ?_) (fun V hV => ?_) ?_
  rotate_left
  · go_simp
    try with_reducible rfl
  try simp only [Act.put, List.getElem_toArray, List.getElem_cons_zero, List.getElem_cons_succ, List.setIfInBounds_toArray, List.set_cons_zero, List.set_cons_succ]
  refine tkH (i := 17) (v := ?_) (fun V hV => ?_) ?_
  rotate_left
  · go_simp
    try with_reducible rfl
  try simp only [Act.put, List.getElem_toArray, List.getElem_cons_zero, List.getElem_cons_succ, List.setIfInBounds_toArray, List.set_cons_zero, List.set_cons_succ]
  refine tkH (i := 18) (v := ?_) (fun V hV => ?_) ?_
  rotate_left
  · go_simp
    try with_reducible rfl
  try simp only [Act.put, List.getElem_toArray, List.getElem_cons_zero, List.getElem_cons_succ, List.setIfInBounds_toArray, List.set_cons_zero, List.set_cons_succ]
  refine tkH (i := 19) (v := ?_) (fun V hV => ?_) ?_
  rotate_left
  · have e3 := (StoAt.of hV.cell1).c3; have e4 := (StoAt.of hV.cell1).c4; have e5 := (StoAt.of hV.cell1).c5; have e6 := (StoAt.of hV.cell1).c6; have e7 := (StoAt.of hV.cell1).c7; have e8 := (StoAt.of hV.cell1).c8; have e9 := (StoAt.of hV.cell1).c9; have e10 := (StoAt.of hV.cell1).c10; go_simp
    try with_reducible rfl
  try simp only [Act.put, List.getElem_toArray, List.getElem_cons_zero, List.getElem_cons_succ, List.setIfInBounds_toArray, List.set_cons_zero, List.set_cons_succ]
  refine tkH (i := 20) (v := ?_) (fun V hV => ?_) ?_
  rotate_left
  · go_simp
    try with_reducible rfl
  try simp only [Act.put, List.getElem_toArray, List.getElem_cons_zero, List.getElem_cons_succ, List.setIfInBounds_toArray, List.set_cons_zero, List.set_cons_succ]
  refine tkH (i := 21) (v := ?_) (fun V hV => ?_) ?_
  rotate_left
  · have f0 := (TruAt.of hV.cell2).c0; have f1 := (TruAt.of hV.cell2).c1; have f2 := (TruAt.of hV.cell2).c2; have f3 := (TruAt.of hV.cell2).c3; go_simp
    try with_reducible rfl
  try simp only [Act.put, List.getElem_toArray, List.getElem_cons_zero, List.getElem_cons_succ, List.setIfInBounds_toArray, List.set_cons_zero, List.set_cons_succ]
  refine wpAnyH_ready (rs := [22]) (by kernel_rfl) (by simp) ?_
  refine AllReadyH.cons (o := _) rfl (fun K hK => ?_) AllReadyH.nil
  go_simp
  (with_reducible refine (has_any s.half t.half _).mono ?_)
  rintro e v4 ⟨rfl, hb⟩
  rw [HB2.out]
  refine hK.out _ _ (hS.step1 hb) (fun hS => ?_)
  clear hK K
  try simp only [List.setIfInBounds_toArray, List.set_cons_zero, List.set_cons_succ]
  refine tkH (i := 23) (v := ?_) (fun V hV => ?_) ?_
  rotate_left
  · go_simp
    try with_reducible rfl
  try simp only [Act.put, List.getElem_toArray, List.getElem_cons_zero, List.getElem_cons_succ, List.setIfInBounds_toArray, List.set_cons_zero, List.set_cons_succ]
  refine tkH (i := 24) (v := ?_) (fun V hV => ?_) ?_
  rotate_left
  · go_simp
    try with_reducible rfl
  try simp only [Act.put, List.getElem_toArray, List.getElem_cons_zero, List.getElem_cons_succ, List.setIfInBounds_toArray, List.set_cons_zero, List.set_cons_succ]
  refine tkU (i := 25) ?_
  try simp only [Act.put, List.getElem_toArray, List.getElem_cons_zero, List.getElem_cons_succ, List.setIfInBounds_toArray, List.set_cons_zero, List.set_cons_succ]
  refine tkU (i := 26) ?_
  try simp only [Act.put, List.getElem_toArray, List.getElem_cons_zero, List.getElem_cons_succ, List.setIfInBounds_toArray, List.set_cons_zero, List.set_cons_succ]
  refine tkU (i := 27) ?_
  try simp only [Act.put, List.getElem_toArray, List.getElem_cons_zero, List.getElem_cons_succ, List.setIfInBounds_toArray, List.set_cons_zero, List.set_cons_succ]
  refine tkU (i := 28) ?_
  try simp only [Act.put, List.getElem_toArray, List.getElem_cons_zero, List.getElem_cons_succ, List.setIfInBounds_toArray, List.set_cons_zero, List.set_cons_succ]
  refine tkU (i := 29) ?_
  try simp only [Act.put, List.getElem_toArray, List.getElem_cons_zero, List.getElem_cons_succ, List.setIfInBounds_toArray, List.set_cons_zero, List.set_cons_succ]
  refine tkH (i := 30) (v := ?_) (fun V hV => ?_) ?_
  rotate_left
  · go_simp
    try with_reducible rfl
  try simp only [Act.put, List.getElem_toArray, List.getElem_cons_zero, List.getElem_cons_succ, List.setIfInBounds_toArray, List.set_cons_zero, List.set_cons_succ]
  refine tkH (i := 31) (v := ?_) (fun V hV => ?_) ?_
  rotate_left
  · go_simp
    try with_reducible rfl
  try simp only [Act.put, List.getElem_toArray, List.getElem_cons_zero, List.getElem_cons_succ, List.setIfInBounds_toArray, List.set_cons_zero, List.set_cons_succ]
  refine tkU (i := 32) ?_
  try simp only [Act.put, List.getElem_toArray, List.getElem_cons_zero, List.getElem_cons_succ, List.setIfInBounds_toArray, List.set_cons_zero, List.set_cons_succ]
  refine tkU (i := 33) ?_
  try simp only [Act.put, List.getElem_toArray, List.getElem_cons_zero, List.getElem_cons_succ, List.setIfInBounds_toArray, List.set_cons_zero, List.set_cons_succ]
  refine tkU (i := 34) ?_
  try simp only [Act.put, List.getElem_toArray, List.getElem_cons_zero, List.getElem_cons_succ, List.setIfInBounds_toArray, List.set_cons_zero, List.set_cons_succ]
  refine tkU (i := 35) ?_
  try simp only [Act.put, List.getElem_toArray, List.getElem_cons_zero, List.getElem_cons_succ, List.setIfInBounds_toArray, List.set_cons_zero, List.set_cons_succ]
  refine tkU (i := 36) ?_
  try simp only [Act.put, List.getElem_toArray, List.getElem_cons_zero, List.getElem_cons_succ, List.setIfInBounds_toArray, List.set_cons_zero, List.set_cons_succ]
  refine tkU (i := 37) ?_
  try simp only [Act.put, List.getElem_toArray, List.getElem_cons_zero, List.getElem_cons_succ, List.setIfInBounds_toArray, List.set_cons_zero, List.set_cons_succ]
  refine tkH (i := 38) (v := ?_) (fun V hV => ?_) ?_
  rotate_left
  · go_simp
    try with_reducible rfl
  try simp only [Act.put, List.getElem_toArray, List.getElem_cons_zero, List.getElem_cons_succ, List.setIfInBounds_toArray, List.set_cons_zero, List.set_cons_succ]
  refine tkH (i := 39) (v := ?_) (fun V hV => ?_) ?_
  rotate_left
  · go_simp
    try with_reducible rfl
  try simp only [Act.put, List.getElem_toArray, List.getElem_cons_zero, List.getElem_cons_succ, List.setIfInBounds_toArray, List.set_cons_zero, List.set_cons_succ]
  refine wpAnyH_done (by kernel_rfl) ?_ _
  have HS9 := hid hS
  clear hS
  go_wp2_with fail
  go_ret
  exact ⟨by rw [HRES.out]; rfl, HS9.out.below⟩

set_option maxRecDepth 40000 in
set_option maxHeartbeats 4000000 in
theorem prove4 (s : Sto) (p : Option Addr) (n c : Nat) (t : Tru) (w : World) (hcs : CrdsAt w p n s.cards) (h0 : faultS s = 0) (hb0 : inB t.a s.a.lo s.a.hi = true) (hb1 : inB t.b s.b.lo s.b.hi = true) (hb2 : inB t.half s.half.lo s.half.hi = true) (hb3 : inB t.peak s.peak.lo s.peak.hi = false) :
    Calls Try.prog 52 #[.agg #[.int .i64 s.wide, .int .i64 s.high, .int .i64 s.fall, .int .i64 s.a.lo, .int .i64 s.a.hi, .int .i64 s.b.lo, .int .i64 s.b.hi, .int .i64 s.half.lo, .int .i64 s.half.hi, .int .i64 s.peak.lo, .int .i64 s.peak.hi, .slice p n c], .agg #[.int .i64 t.a, .int .i64 t.b, .int .i64 t.half, .int .i64 t.peak]] w fun e w' => e = .returned (.bool (provedB s t)) ∧ Below w.heap.size w w' := by
  have HC := hid hcs
  have HCK := hid (fun W (hb : Below w.heap.size w W) => checkStorm_any s p n c W (hcs.below hb))
  clear hcs
  have H0 := hid h0
  have HB0 := hid hb0
  have HB1 := hid hb1
  have HB2 := hid hb2
  have HB3 := hid hb3
  have HRES : Hid (provedB s t = false) := hid (by rw [provedB, truB, hb0, hb1, hb2, hb3]; simp)
  clear h0 hb0 hb1 hb2 hb3
  have HBX : Hid (Boxed2 w #[.int .i64 s.wide, .int .i64 s.high, .int .i64 s.fall, .int .i64 s.a.lo, .int .i64 s.a.hi, .int .i64 s.b.lo, .int .i64 s.b.hi, .int .i64 s.half.lo, .int .i64 s.half.hi, .int .i64 s.peak.lo, .int .i64 s.peak.hi, .slice p n c] 35 #[.int .i64 t.a, .int .i64 t.b, .int .i64 t.half, .int .i64 t.peak] 94 ((w.alloc (.cells #[.int .i64 s.wide, .int .i64 s.high, .int .i64 s.fall, .int .i64 s.a.lo, .int .i64 s.a.hi, .int .i64 s.b.lo, .int .i64 s.b.hi, .int .i64 s.half.lo, .int .i64 s.half.hi, .int .i64 s.peak.lo, .int .i64 s.peak.hi, .slice p n c] 35)).alloc (.cells #[.int .i64 t.a, .int .i64 t.b, .int .i64 t.half, .int .i64 t.peak] 94))) := hid (Below.refl _ _)
  go_enter Try.func52, Try.ntmps52
  go_upto_region 1 with fail
  refine wp_region_held_drew (S := fun V => Boxed2 w #[.int .i64 s.wide, .int .i64 s.high, .int .i64 s.fall, .int .i64 s.a.lo, .int .i64 s.a.hi, .int .i64 s.b.lo, .int .i64 s.b.hi, .int .i64 s.half.lo, .int .i64 s.half.hi, .int .i64 s.peak.lo, .int .i64 s.peak.hi, .slice p n c] 35 #[.int .i64 t.a, .int .i64 t.b, .int .i64 t.half, .int .i64 t.peak] 94 V) (by kernel_rfl) (HBX.out.drew) (fun hS => ?_)
  simp only [List.size_toArray, List.length_cons, List.length_nil, Nat.reduceAdd, Array.replicate_succ, Array.replicate_zero, List.push_toArray, List.nil_append, List.cons_append]
  refine tkH (i := 0) (v := ?_) (fun V hV => ?_) ?_
  rotate_left
  · have e0 := (StoAt.of hV.cell1).c0; have e1 := (StoAt.of hV.cell1).c1; have e2 := (StoAt.of hV.cell1).c2; have e3 := (StoAt.of hV.cell1).c3; have e4 := (StoAt.of hV.cell1).c4; have e5 := (StoAt.of hV.cell1).c5; have e6 := (StoAt.of hV.cell1).c6; have e7 := (StoAt.of hV.cell1).c7; have e8 := (StoAt.of hV.cell1).c8; have e9 := (StoAt.of hV.cell1).c9; have e10 := (StoAt.of hV.cell1).c10; have e11 := (StoAt.of hV.cell1).c11; go_simp
    try with_reducible rfl
  try simp only [Act.put, List.getElem_toArray, List.getElem_cons_zero, List.setIfInBounds_toArray, List.set_cons_zero, List.set_cons_succ]
  refine wpAnyH_ready (rs := [1]) (by kernel_rfl) (by simp) ?_
  refine AllReadyH.cons (o := _) rfl (fun K hK => ?_) AllReadyH.nil
  go_simp
  (with_reducible refine (HCK.out _ hS.below).mono ?_)
  rintro e v1 ⟨rfl, hb⟩
  rw [H0.out]
  refine hK.out _ _ (hS.step1 hb) (fun hS => ?_)
  clear hK K
  try simp only [List.setIfInBounds_toArray, List.set_cons_zero, List.set_cons_succ]
  refine tkH (i := 2) (v := ?_) (fun V hV => ?_) ?_
  rotate_left
  · go_simp
    try with_reducible rfl
  try simp only [Act.put, List.getElem_toArray, List.getElem_cons_zero, List.getElem_cons_succ, List.setIfInBounds_toArray, List.set_cons_zero, List.set_cons_succ]
  refine tkH (i := 3) (v := ?_) (fun V hV => ?_) ?_
  rotate_left
  · go_simp
    try with_reducible rfl
  try simp only [Act.put, List.getElem_toArray, List.getElem_cons_zero, List.getElem_cons_succ, List.setIfInBounds_toArray, List.set_cons_zero, List.set_cons_succ]
  refine tkH (i := 4) (v := ?_) (fun V hV => ?_) ?_
  rotate_left
  · go_simp
    try with_reducible rfl
  try simp only [Act.put, List.getElem_toArray, List.getElem_cons_zero, List.getElem_cons_succ, List.setIfInBounds_toArray, List.set_cons_zero, List.set_cons_succ]
  refine tkH (i := 5) (v := ?_) (fun V hV => ?_) ?_
  rotate_left
  · have e3 := (StoAt.of hV.cell1).c3; have e4 := (StoAt.of hV.cell1).c4; have e5 := (StoAt.of hV.cell1).c5; have e6 := (StoAt.of hV.cell1).c6; have e7 := (StoAt.of hV.cell1).c7; have e8 := (StoAt.of hV.cell1).c8; have e9 := (StoAt.of hV.cell1).c9; have e10 := (StoAt.of hV.cell1).c10; go_simp
    try with_reducible rfl
  try simp only [Act.put, List.getElem_toArray, List.getElem_cons_zero, List.getElem_cons_succ, List.setIfInBounds_toArray, List.set_cons_zero, List.set_cons_succ]
  refine tkH (i := 6) (v := ?_) (fun V hV => ?_) ?_
  rotate_left
  · go_simp
    try with_reducible rfl
  try simp only [Act.put, List.getElem_toArray, List.getElem_cons_zero, List.getElem_cons_succ, List.setIfInBounds_toArray, List.set_cons_zero, List.set_cons_succ]
  refine tkH (i := 7) (v := ?_) (fun V hV => ?_) ?_
  rotate_left
  · have f0 := (TruAt.of hV.cell2).c0; have f1 := (TruAt.of hV.cell2).c1; have f2 := (TruAt.of hV.cell2).c2; have f3 := (TruAt.of hV.cell2).c3; go_simp
    try with_reducible rfl
  try simp only [Act.put, List.getElem_toArray, List.getElem_cons_zero, List.getElem_cons_succ, List.setIfInBounds_toArray, List.set_cons_zero, List.set_cons_succ]
  refine wpAnyH_ready (rs := [8]) (by kernel_rfl) (by simp) ?_
  refine AllReadyH.cons (o := _) rfl (fun K hK => ?_) AllReadyH.nil
  go_simp
  (with_reducible refine (has_any s.a t.a _).mono ?_)
  rintro e v2 ⟨rfl, hb⟩
  rw [HB0.out]
  refine hK.out _ _ (hS.step1 hb) (fun hS => ?_)
  clear hK K
  try simp only [List.setIfInBounds_toArray, List.set_cons_zero, List.set_cons_succ]
  refine tkH (i := 9) (v := ?_) (fun V hV => ?_) ?_
  rotate_left
  · go_simp
    try with_reducible rfl
  try simp only [Act.put, List.getElem_toArray, List.getElem_cons_zero, List.getElem_cons_succ, List.setIfInBounds_toArray, List.set_cons_zero, List.set_cons_succ]
  refine tkH (i := 10) (v := ?_) (fun V hV => ?_) ?_
  rotate_left
  · go_simp
    try with_reducible rfl
  try simp only [Act.put, List.getElem_toArray, List.getElem_cons_zero, List.getElem_cons_succ, List.setIfInBounds_toArray, List.set_cons_zero, List.set_cons_succ]
  refine tkH (i := 11) (v := ?_) (fun V hV => ?_) ?_
  rotate_left
  · go_simp
    try with_reducible rfl
  try simp only [Act.put, List.getElem_toArray, List.getElem_cons_zero, List.getElem_cons_succ, List.setIfInBounds_toArray, List.set_cons_zero, List.set_cons_succ]
  refine tkH (i := 12) (v := ?_) (fun V hV => ?_) ?_
  rotate_left
  · have e3 := (StoAt.of hV.cell1).c3; have e4 := (StoAt.of hV.cell1).c4; have e5 := (StoAt.of hV.cell1).c5; have e6 := (StoAt.of hV.cell1).c6; have e7 := (StoAt.of hV.cell1).c7; have e8 := (StoAt.of hV.cell1).c8; have e9 := (StoAt.of hV.cell1).c9; have e10 := (StoAt.of hV.cell1).c10; go_simp
    try with_reducible rfl
  try simp only [Act.put, List.getElem_toArray, List.getElem_cons_zero, List.getElem_cons_succ, List.setIfInBounds_toArray, List.set_cons_zero, List.set_cons_succ]
  refine tkH (i := 13) (v := ?_) (fun V hV => ?_) ?_
  rotate_left
  · go_simp
    try with_reducible rfl
  try simp only [Act.put, List.getElem_toArray, List.getElem_cons_zero, List.getElem_cons_succ, List.setIfInBounds_toArray, List.set_cons_zero, List.set_cons_succ]
  refine tkH (i := 14) (v := ?_) (fun V hV => ?_) ?_
  rotate_left
  · have f0 := (TruAt.of hV.cell2).c0; have f1 := (TruAt.of hV.cell2).c1; have f2 := (TruAt.of hV.cell2).c2; have f3 := (TruAt.of hV.cell2).c3; go_simp
    try with_reducible rfl
  try simp only [Act.put, List.getElem_toArray, List.getElem_cons_zero, List.getElem_cons_succ, List.setIfInBounds_toArray, List.set_cons_zero, List.set_cons_succ]
  refine wpAnyH_ready (rs := [15]) (by kernel_rfl) (by simp) ?_
  refine AllReadyH.cons (o := _) rfl (fun K hK => ?_) AllReadyH.nil
  go_simp
  (with_reducible refine (has_any s.b t.b _).mono ?_)
  rintro e v3 ⟨rfl, hb⟩
  rw [HB1.out]
  refine hK.out _ _ (hS.step1 hb) (fun hS => ?_)
  clear hK K
  try simp only [List.setIfInBounds_toArray, List.set_cons_zero, List.set_cons_succ]
  refine tkH (i := 16) (v := ?_) (fun V hV => ?_) ?_
  rotate_left
  · go_simp
    try with_reducible rfl
  try simp only [Act.put, List.getElem_toArray, List.getElem_cons_zero, List.getElem_cons_succ, List.setIfInBounds_toArray, List.set_cons_zero, List.set_cons_succ]
  refine tkH (i := 17) (v := ?_) (fun V hV => ?_) ?_
  rotate_left
  · go_simp
    try with_reducible rfl
  try simp only [Act.put, List.getElem_toArray, List.getElem_cons_zero, List.getElem_cons_succ, List.setIfInBounds_toArray, List.set_cons_zero, List.set_cons_succ]
  refine tkH (i := 18) (v := ?_) (fun V hV => ?_) ?_
  rotate_left
  · go_simp
    try with_reducible rfl
  try simp only [Act.put, List.getElem_toArray, List.getElem_cons_zero, List.getElem_cons_succ, List.setIfInBounds_toArray, List.set_cons_zero, List.set_cons_succ]
  refine tkH (i := 19) (v := ?_) (fun V hV => ?_) ?_
  rotate_left
  · have e3 := (StoAt.of hV.cell1).c3; have e4 := (StoAt.of hV.cell1).c4; have e5 := (StoAt.of hV.cell1).c5; have e6 := (StoAt.of hV.cell1).c6; have e7 := (StoAt.of hV.cell1).c7; have e8 := (StoAt.of hV.cell1).c8; have e9 := (StoAt.of hV.cell1).c9; have e10 := (StoAt.of hV.cell1).c10; go_simp
    try with_reducible rfl
  try simp only [Act.put, List.getElem_toArray, List.getElem_cons_zero, List.getElem_cons_succ, List.setIfInBounds_toArray, List.set_cons_zero, List.set_cons_succ]
  refine tkH (i := 20) (v := ?_) (fun V hV => ?_) ?_
  rotate_left
  · go_simp
    try with_reducible rfl
  try simp only [Act.put, List.getElem_toArray, List.getElem_cons_zero, List.getElem_cons_succ, List.setIfInBounds_toArray, List.set_cons_zero, List.set_cons_succ]
  refine tkH (i := 21) (v := ?_) (fun V hV => ?_) ?_
  rotate_left
  · have f0 := (TruAt.of hV.cell2).c0; have f1 := (TruAt.of hV.cell2).c1; have f2 := (TruAt.of hV.cell2).c2; have f3 := (TruAt.of hV.cell2).c3; go_simp
    try with_reducible rfl
  try simp only [Act.put, List.getElem_toArray, List.getElem_cons_zero, List.getElem_cons_succ, List.setIfInBounds_toArray, List.set_cons_zero, List.set_cons_succ]
  refine wpAnyH_ready (rs := [22]) (by kernel_rfl) (by simp) ?_
  refine AllReadyH.cons (o := _) rfl (fun K hK => ?_) AllReadyH.nil
  go_simp
  (with_reducible refine (has_any s.half t.half _).mono ?_)
  rintro e v4 ⟨rfl, hb⟩
  rw [HB2.out]
  refine hK.out _ _ (hS.step1 hb) (fun hS => ?_)
  clear hK K
  try simp only [List.setIfInBounds_toArray, List.set_cons_zero, List.set_cons_succ]
  refine tkH (i := 23) (v := ?_) (fun V hV => ?_) ?_
  rotate_left
  · go_simp
    try with_reducible rfl
  try simp only [Act.put, List.getElem_toArray, List.getElem_cons_zero, List.getElem_cons_succ, List.setIfInBounds_toArray, List.set_cons_zero, List.set_cons_succ]
  refine tkH (i := 24) (v := ?_) (fun V hV => ?_) ?_
  rotate_left
  · go_simp
    try with_reducible rfl
  try simp only [Act.put, List.getElem_toArray, List.getElem_cons_zero, List.getElem_cons_succ, List.setIfInBounds_toArray, List.set_cons_zero, List.set_cons_succ]
  refine tkH (i := 25) (v := ?_) (fun V hV => ?_) ?_
  rotate_left
  · go_simp
    try with_reducible rfl
  try simp only [Act.put, List.getElem_toArray, List.getElem_cons_zero, List.getElem_cons_succ, List.setIfInBounds_toArray, List.set_cons_zero, List.set_cons_succ]
  refine tkH (i := 26) (v := ?_) (fun V hV => ?_) ?_
  rotate_left
  · have e3 := (StoAt.of hV.cell1).c3; have e4 := (StoAt.of hV.cell1).c4; have e5 := (StoAt.of hV.cell1).c5; have e6 := (StoAt.of hV.cell1).c6; have e7 := (StoAt.of hV.cell1).c7; have e8 := (StoAt.of hV.cell1).c8; have e9 := (StoAt.of hV.cell1).c9; have e10 := (StoAt.of hV.cell1).c10; go_simp
    try with_reducible rfl
  try simp only [Act.put, List.getElem_toArray, List.getElem_cons_zero, List.getElem_cons_succ, List.setIfInBounds_toArray, List.set_cons_zero, List.set_cons_succ]
  refine tkH (i := 27) (v := ?_) (fun V hV => ?_) ?_
  rotate_left
  · go_simp
    try with_reducible rfl
  try simp only [Act.put, List.getElem_toArray, List.getElem_cons_zero, List.getElem_cons_succ, List.setIfInBounds_toArray, List.set_cons_zero, List.set_cons_succ]
  refine tkH (i := 28) (v := ?_) (fun V hV => ?_) ?_
  rotate_left
  · have f0 := (TruAt.of hV.cell2).c0; have f1 := (TruAt.of hV.cell2).c1; have f2 := (TruAt.of hV.cell2).c2; have f3 := (TruAt.of hV.cell2).c3; go_simp
    try with_reducible rfl
  try simp only [Act.put, List.getElem_toArray, List.getElem_cons_zero, List.getElem_cons_succ, List.setIfInBounds_toArray, List.set_cons_zero, List.set_cons_succ]
  refine wpAnyH_ready (rs := [29]) (by kernel_rfl) (by simp) ?_
  refine AllReadyH.cons (o := _) rfl (fun K hK => ?_) AllReadyH.nil
  go_simp
  (with_reducible refine (has_any s.peak t.peak _).mono ?_)
  rintro e v5 ⟨rfl, hb⟩
  rw [HB3.out]
  refine hK.out _ _ (hS.step1 hb) (fun hS => ?_)
  clear hK K
  try simp only [List.setIfInBounds_toArray, List.set_cons_zero, List.set_cons_succ]
  refine tkH (i := 30) (v := ?_) (fun V hV => ?_) ?_
  rotate_left
  · go_simp
    try with_reducible rfl
  try simp only [Act.put, List.getElem_toArray, List.getElem_cons_zero, List.getElem_cons_succ, List.setIfInBounds_toArray, List.set_cons_zero, List.set_cons_succ]
  refine tkH (i := 31) (v := ?_) (fun V hV => ?_) ?_
  rotate_left
  · go_simp
    try with_reducible rfl
  try simp only [Act.put, List.getElem_toArray, List.getElem_cons_zero, List.getElem_cons_succ, List.setIfInBounds_toArray, List.set_cons_zero, List.set_cons_succ]
  refine tkU (i := 32) ?_
  try simp only [Act.put, List.getElem_toArray, List.getElem_cons_zero, List.getElem_cons_succ, List.setIfInBounds_toArray, List.set_cons_zero, List.set_cons_succ]
  refine tkU (i := 33) ?_
  try simp only [Act.put, List.getElem_toArray, List.getElem_cons_zero, List.getElem_cons_succ, List.setIfInBounds_toArray, List.set_cons_zero, List.set_cons_succ]
  refine tkU (i := 34) ?_
  try simp only [Act.put, List.getElem_toArray, List.getElem_cons_zero, List.getElem_cons_succ, List.setIfInBounds_toArray, List.set_cons_zero, List.set_cons_succ]
  refine tkU (i := 35) ?_
  try simp only [Act.put, List.getElem_toArray, List.getElem_cons_zero, List.getElem_cons_succ, List.setIfInBounds_toArray, List.set_cons_zero, List.set_cons_succ]
  refine tkU (i := 36) ?_
  try simp only [Act.put, List.getElem_toArray, List.getElem_cons_zero, List.getElem_cons_succ, List.setIfInBounds_toArray, List.set_cons_zero, List.set_cons_succ]
  refine tkU (i := 37) ?_
  try simp only [Act.put, List.getElem_toArray, List.getElem_cons_zero, List.getElem_cons_succ, List.setIfInBounds_toArray, List.set_cons_zero, List.set_cons_succ]
  refine tkH (i := 38) (v := ?_) (fun V hV => ?_) ?_
  rotate_left
  · go_simp
    try with_reducible rfl
  try simp only [Act.put, List.getElem_toArray, List.getElem_cons_zero, List.getElem_cons_succ, List.setIfInBounds_toArray, List.set_cons_zero, List.set_cons_succ]
  refine tkH (i := 39) (v := ?_) (fun V hV => ?_) ?_
  rotate_left
  · go_simp
    try with_reducible rfl
  try simp only [Act.put, List.getElem_toArray, List.getElem_cons_zero, List.getElem_cons_succ, List.setIfInBounds_toArray, List.set_cons_zero, List.set_cons_succ]
  refine wpAnyH_done (by kernel_rfl) ?_ _
  have HS9 := hid hS
  clear hS
  go_wp2_with fail
  go_ret
  exact ⟨by rw [HRES.out]; rfl, HS9.out.below⟩

set_option maxRecDepth 40000 in
set_option maxHeartbeats 4000000 in
theorem prove5 (s : Sto) (p : Option Addr) (n c : Nat) (t : Tru) (w : World) (hcs : CrdsAt w p n s.cards) (h0 : faultS s = 0) (hb0 : inB t.a s.a.lo s.a.hi = true) (hb1 : inB t.b s.b.lo s.b.hi = true) (hb2 : inB t.half s.half.lo s.half.hi = true) (hb3 : inB t.peak s.peak.lo s.peak.hi = true) :
    Calls Try.prog 52 #[.agg #[.int .i64 s.wide, .int .i64 s.high, .int .i64 s.fall, .int .i64 s.a.lo, .int .i64 s.a.hi, .int .i64 s.b.lo, .int .i64 s.b.hi, .int .i64 s.half.lo, .int .i64 s.half.hi, .int .i64 s.peak.lo, .int .i64 s.peak.hi, .slice p n c], .agg #[.int .i64 t.a, .int .i64 t.b, .int .i64 t.half, .int .i64 t.peak]] w fun e w' => e = .returned (.bool (provedB s t)) ∧ Below w.heap.size w w' := by
  have HC := hid hcs
  have HCK := hid (fun W (hb : Below w.heap.size w W) => checkStorm_any s p n c W (hcs.below hb))
  clear hcs
  have H0 := hid h0
  have HB0 := hid hb0
  have HB1 := hid hb1
  have HB2 := hid hb2
  have HB3 := hid hb3
  have HTR : Hid (truB s t = true) := hid (by rw [truB, hb0, hb1, hb2, hb3]; rfl)
  have HOK := hid (fault_iff.1 h0)
  have HRES : Hid (provedB s t = s.cards.all (fitsB s t)) := hid (by rw [provedB, HTR.out, h0]; simp)
  have h6r := all6_right HOK.out.n6 t
  have HE6 : Hid (∀ W, (Op.equalIn 10000 135 (.agg #[.bool (rightF s t 0), .bool (rightF s t 1), .bool (rightF s t 2), .bool (rightF s t 3), .bool (rightF s t 4), .bool (rightF s t 5)]) (.agg #[.bool true, .bool true, .bool true, .bool true, .bool true, .bool true])).run Try.prog W = .ok (s.cards.all (fitsB s t)) W) := hid (fun W => by have heq := eq6 (rightF s t 0) (rightF s t 1) (rightF s t 2) (rightF s t 3) (rightF s t 4) (rightF s t 5) W; rw [heq, ← h6r]; rfl)
  clear h6r
  clear h0 hb0 hb1 hb2 hb3
  have HBX : Hid (Boxed2 w #[.int .i64 s.wide, .int .i64 s.high, .int .i64 s.fall, .int .i64 s.a.lo, .int .i64 s.a.hi, .int .i64 s.b.lo, .int .i64 s.b.hi, .int .i64 s.half.lo, .int .i64 s.half.hi, .int .i64 s.peak.lo, .int .i64 s.peak.hi, .slice p n c] 35 #[.int .i64 t.a, .int .i64 t.b, .int .i64 t.half, .int .i64 t.peak] 94 ((w.alloc (.cells #[.int .i64 s.wide, .int .i64 s.high, .int .i64 s.fall, .int .i64 s.a.lo, .int .i64 s.a.hi, .int .i64 s.b.lo, .int .i64 s.b.hi, .int .i64 s.half.lo, .int .i64 s.half.hi, .int .i64 s.peak.lo, .int .i64 s.peak.hi, .slice p n c] 35)).alloc (.cells #[.int .i64 t.a, .int .i64 t.b, .int .i64 t.half, .int .i64 t.peak] 94))) := hid (Below.refl _ _)
  go_enter Try.func52, Try.ntmps52
  go_upto_region 1 with fail
  refine wp_region_held_drew (S := fun V => Boxed2 w #[.int .i64 s.wide, .int .i64 s.high, .int .i64 s.fall, .int .i64 s.a.lo, .int .i64 s.a.hi, .int .i64 s.b.lo, .int .i64 s.b.hi, .int .i64 s.half.lo, .int .i64 s.half.hi, .int .i64 s.peak.lo, .int .i64 s.peak.hi, .slice p n c] 35 #[.int .i64 t.a, .int .i64 t.b, .int .i64 t.half, .int .i64 t.peak] 94 V) (by kernel_rfl) (HBX.out.drew) (fun hS => ?_)
  simp only [List.size_toArray, List.length_cons, List.length_nil, Nat.reduceAdd, Array.replicate_succ, Array.replicate_zero, List.push_toArray, List.nil_append, List.cons_append]
  refine tkH (i := 0) (v := ?_) (fun V hV => ?_) ?_
  rotate_left
  · have e0 := (StoAt.of hV.cell1).c0; have e1 := (StoAt.of hV.cell1).c1; have e2 := (StoAt.of hV.cell1).c2; have e3 := (StoAt.of hV.cell1).c3; have e4 := (StoAt.of hV.cell1).c4; have e5 := (StoAt.of hV.cell1).c5; have e6 := (StoAt.of hV.cell1).c6; have e7 := (StoAt.of hV.cell1).c7; have e8 := (StoAt.of hV.cell1).c8; have e9 := (StoAt.of hV.cell1).c9; have e10 := (StoAt.of hV.cell1).c10; have e11 := (StoAt.of hV.cell1).c11; go_simp
    try with_reducible rfl
  try simp only [Act.put, List.getElem_toArray, List.getElem_cons_zero, List.setIfInBounds_toArray, List.set_cons_zero, List.set_cons_succ]
  refine wpAnyH_ready (rs := [1]) (by kernel_rfl) (by simp) ?_
  refine AllReadyH.cons (o := _) rfl (fun K hK => ?_) AllReadyH.nil
  go_simp
  (with_reducible refine (HCK.out _ hS.below).mono ?_)
  rintro e v1 ⟨rfl, hb⟩
  rw [H0.out]
  refine hK.out _ _ (hS.step1 hb) (fun hS => ?_)
  clear hK K
  try simp only [List.setIfInBounds_toArray, List.set_cons_zero, List.set_cons_succ]
  refine tkH (i := 2) (v := ?_) (fun V hV => ?_) ?_
  rotate_left
  · go_simp
    try with_reducible rfl
  try simp only [Act.put, List.getElem_toArray, List.getElem_cons_zero, List.getElem_cons_succ, List.setIfInBounds_toArray, List.set_cons_zero, List.set_cons_succ]
  refine tkH (i := 3) (v := ?_) (fun V hV => ?_) ?_
  rotate_left
  · go_simp
    try with_reducible rfl
  try simp only [Act.put, List.getElem_toArray, List.getElem_cons_zero, List.getElem_cons_succ, List.setIfInBounds_toArray, List.set_cons_zero, List.set_cons_succ]
  refine tkH (i := 4) (v := ?_) (fun V hV => ?_) ?_
  rotate_left
  · go_simp
    try with_reducible rfl
  try simp only [Act.put, List.getElem_toArray, List.getElem_cons_zero, List.getElem_cons_succ, List.setIfInBounds_toArray, List.set_cons_zero, List.set_cons_succ]
  refine tkH (i := 5) (v := ?_) (fun V hV => ?_) ?_
  rotate_left
  · have e3 := (StoAt.of hV.cell1).c3; have e4 := (StoAt.of hV.cell1).c4; have e5 := (StoAt.of hV.cell1).c5; have e6 := (StoAt.of hV.cell1).c6; have e7 := (StoAt.of hV.cell1).c7; have e8 := (StoAt.of hV.cell1).c8; have e9 := (StoAt.of hV.cell1).c9; have e10 := (StoAt.of hV.cell1).c10; go_simp
    try with_reducible rfl
  try simp only [Act.put, List.getElem_toArray, List.getElem_cons_zero, List.getElem_cons_succ, List.setIfInBounds_toArray, List.set_cons_zero, List.set_cons_succ]
  refine tkH (i := 6) (v := ?_) (fun V hV => ?_) ?_
  rotate_left
  · go_simp
    try with_reducible rfl
  try simp only [Act.put, List.getElem_toArray, List.getElem_cons_zero, List.getElem_cons_succ, List.setIfInBounds_toArray, List.set_cons_zero, List.set_cons_succ]
  refine tkH (i := 7) (v := ?_) (fun V hV => ?_) ?_
  rotate_left
  · have f0 := (TruAt.of hV.cell2).c0; have f1 := (TruAt.of hV.cell2).c1; have f2 := (TruAt.of hV.cell2).c2; have f3 := (TruAt.of hV.cell2).c3; go_simp
    try with_reducible rfl
  try simp only [Act.put, List.getElem_toArray, List.getElem_cons_zero, List.getElem_cons_succ, List.setIfInBounds_toArray, List.set_cons_zero, List.set_cons_succ]
  refine wpAnyH_ready (rs := [8]) (by kernel_rfl) (by simp) ?_
  refine AllReadyH.cons (o := _) rfl (fun K hK => ?_) AllReadyH.nil
  go_simp
  (with_reducible refine (has_any s.a t.a _).mono ?_)
  rintro e v2 ⟨rfl, hb⟩
  rw [HB0.out]
  refine hK.out _ _ (hS.step1 hb) (fun hS => ?_)
  clear hK K
  try simp only [List.setIfInBounds_toArray, List.set_cons_zero, List.set_cons_succ]
  refine tkH (i := 9) (v := ?_) (fun V hV => ?_) ?_
  rotate_left
  · go_simp
    try with_reducible rfl
  try simp only [Act.put, List.getElem_toArray, List.getElem_cons_zero, List.getElem_cons_succ, List.setIfInBounds_toArray, List.set_cons_zero, List.set_cons_succ]
  refine tkH (i := 10) (v := ?_) (fun V hV => ?_) ?_
  rotate_left
  · go_simp
    try with_reducible rfl
  try simp only [Act.put, List.getElem_toArray, List.getElem_cons_zero, List.getElem_cons_succ, List.setIfInBounds_toArray, List.set_cons_zero, List.set_cons_succ]
  refine tkH (i := 11) (v := ?_) (fun V hV => ?_) ?_
  rotate_left
  · go_simp
    try with_reducible rfl
  try simp only [Act.put, List.getElem_toArray, List.getElem_cons_zero, List.getElem_cons_succ, List.setIfInBounds_toArray, List.set_cons_zero, List.set_cons_succ]
  refine tkH (i := 12) (v := ?_) (fun V hV => ?_) ?_
  rotate_left
  · have e3 := (StoAt.of hV.cell1).c3; have e4 := (StoAt.of hV.cell1).c4; have e5 := (StoAt.of hV.cell1).c5; have e6 := (StoAt.of hV.cell1).c6; have e7 := (StoAt.of hV.cell1).c7; have e8 := (StoAt.of hV.cell1).c8; have e9 := (StoAt.of hV.cell1).c9; have e10 := (StoAt.of hV.cell1).c10; go_simp
    try with_reducible rfl
  try simp only [Act.put, List.getElem_toArray, List.getElem_cons_zero, List.getElem_cons_succ, List.setIfInBounds_toArray, List.set_cons_zero, List.set_cons_succ]
  refine tkH (i := 13) (v := ?_) (fun V hV => ?_) ?_
  rotate_left
  · go_simp
    try with_reducible rfl
  try simp only [Act.put, List.getElem_toArray, List.getElem_cons_zero, List.getElem_cons_succ, List.setIfInBounds_toArray, List.set_cons_zero, List.set_cons_succ]
  refine tkH (i := 14) (v := ?_) (fun V hV => ?_) ?_
  rotate_left
  · have f0 := (TruAt.of hV.cell2).c0; have f1 := (TruAt.of hV.cell2).c1; have f2 := (TruAt.of hV.cell2).c2; have f3 := (TruAt.of hV.cell2).c3; go_simp
    try with_reducible rfl
  try simp only [Act.put, List.getElem_toArray, List.getElem_cons_zero, List.getElem_cons_succ, List.setIfInBounds_toArray, List.set_cons_zero, List.set_cons_succ]
  refine wpAnyH_ready (rs := [15]) (by kernel_rfl) (by simp) ?_
  refine AllReadyH.cons (o := _) rfl (fun K hK => ?_) AllReadyH.nil
  go_simp
  (with_reducible refine (has_any s.b t.b _).mono ?_)
  rintro e v3 ⟨rfl, hb⟩
  rw [HB1.out]
  refine hK.out _ _ (hS.step1 hb) (fun hS => ?_)
  clear hK K
  try simp only [List.setIfInBounds_toArray, List.set_cons_zero, List.set_cons_succ]
  refine tkH (i := 16) (v := ?_) (fun V hV => ?_) ?_
  rotate_left
  · go_simp
    try with_reducible rfl
  try simp only [Act.put, List.getElem_toArray, List.getElem_cons_zero, List.getElem_cons_succ, List.setIfInBounds_toArray, List.set_cons_zero, List.set_cons_succ]
  refine tkH (i := 17) (v := ?_) (fun V hV => ?_) ?_
  rotate_left
  · go_simp
    try with_reducible rfl
  try simp only [Act.put, List.getElem_toArray, List.getElem_cons_zero, List.getElem_cons_succ, List.setIfInBounds_toArray, List.set_cons_zero, List.set_cons_succ]
  refine tkH (i := 18) (v := ?_) (fun V hV => ?_) ?_
  rotate_left
  · go_simp
    try with_reducible rfl
  try simp only [Act.put, List.getElem_toArray, List.getElem_cons_zero, List.getElem_cons_succ, List.setIfInBounds_toArray, List.set_cons_zero, List.set_cons_succ]
  refine tkH (i := 19) (v := ?_) (fun V hV => ?_) ?_
  rotate_left
  · have e3 := (StoAt.of hV.cell1).c3; have e4 := (StoAt.of hV.cell1).c4; have e5 := (StoAt.of hV.cell1).c5; have e6 := (StoAt.of hV.cell1).c6; have e7 := (StoAt.of hV.cell1).c7; have e8 := (StoAt.of hV.cell1).c8; have e9 := (StoAt.of hV.cell1).c9; have e10 := (StoAt.of hV.cell1).c10; go_simp
    try with_reducible rfl
  try simp only [Act.put, List.getElem_toArray, List.getElem_cons_zero, List.getElem_cons_succ, List.setIfInBounds_toArray, List.set_cons_zero, List.set_cons_succ]
  refine tkH (i := 20) (v := ?_) (fun V hV => ?_) ?_
  rotate_left
  · go_simp
    try with_reducible rfl
  try simp only [Act.put, List.getElem_toArray, List.getElem_cons_zero, List.getElem_cons_succ, List.setIfInBounds_toArray, List.set_cons_zero, List.set_cons_succ]
  refine tkH (i := 21) (v := ?_) (fun V hV => ?_) ?_
  rotate_left
  · have f0 := (TruAt.of hV.cell2).c0; have f1 := (TruAt.of hV.cell2).c1; have f2 := (TruAt.of hV.cell2).c2; have f3 := (TruAt.of hV.cell2).c3; go_simp
    try with_reducible rfl
  try simp only [Act.put, List.getElem_toArray, List.getElem_cons_zero, List.getElem_cons_succ, List.setIfInBounds_toArray, List.set_cons_zero, List.set_cons_succ]
  refine wpAnyH_ready (rs := [22]) (by kernel_rfl) (by simp) ?_
  refine AllReadyH.cons (o := _) rfl (fun K hK => ?_) AllReadyH.nil
  go_simp
  (with_reducible refine (has_any s.half t.half _).mono ?_)
  rintro e v4 ⟨rfl, hb⟩
  rw [HB2.out]
  refine hK.out _ _ (hS.step1 hb) (fun hS => ?_)
  clear hK K
  try simp only [List.setIfInBounds_toArray, List.set_cons_zero, List.set_cons_succ]
  refine tkH (i := 23) (v := ?_) (fun V hV => ?_) ?_
  rotate_left
  · go_simp
    try with_reducible rfl
  try simp only [Act.put, List.getElem_toArray, List.getElem_cons_zero, List.getElem_cons_succ, List.setIfInBounds_toArray, List.set_cons_zero, List.set_cons_succ]
  refine tkH (i := 24) (v := ?_) (fun V hV => ?_) ?_
  rotate_left
  · go_simp
    try with_reducible rfl
  try simp only [Act.put, List.getElem_toArray, List.getElem_cons_zero, List.getElem_cons_succ, List.setIfInBounds_toArray, List.set_cons_zero, List.set_cons_succ]
  refine tkH (i := 25) (v := ?_) (fun V hV => ?_) ?_
  rotate_left
  · go_simp
    try with_reducible rfl
  try simp only [Act.put, List.getElem_toArray, List.getElem_cons_zero, List.getElem_cons_succ, List.setIfInBounds_toArray, List.set_cons_zero, List.set_cons_succ]
  refine tkH (i := 26) (v := ?_) (fun V hV => ?_) ?_
  rotate_left
  · have e3 := (StoAt.of hV.cell1).c3; have e4 := (StoAt.of hV.cell1).c4; have e5 := (StoAt.of hV.cell1).c5; have e6 := (StoAt.of hV.cell1).c6; have e7 := (StoAt.of hV.cell1).c7; have e8 := (StoAt.of hV.cell1).c8; have e9 := (StoAt.of hV.cell1).c9; have e10 := (StoAt.of hV.cell1).c10; go_simp
    try with_reducible rfl
  try simp only [Act.put, List.getElem_toArray, List.getElem_cons_zero, List.getElem_cons_succ, List.setIfInBounds_toArray, List.set_cons_zero, List.set_cons_succ]
  refine tkH (i := 27) (v := ?_) (fun V hV => ?_) ?_
  rotate_left
  · go_simp
    try with_reducible rfl
  try simp only [Act.put, List.getElem_toArray, List.getElem_cons_zero, List.getElem_cons_succ, List.setIfInBounds_toArray, List.set_cons_zero, List.set_cons_succ]
  refine tkH (i := 28) (v := ?_) (fun V hV => ?_) ?_
  rotate_left
  · have f0 := (TruAt.of hV.cell2).c0; have f1 := (TruAt.of hV.cell2).c1; have f2 := (TruAt.of hV.cell2).c2; have f3 := (TruAt.of hV.cell2).c3; go_simp
    try with_reducible rfl
  try simp only [Act.put, List.getElem_toArray, List.getElem_cons_zero, List.getElem_cons_succ, List.setIfInBounds_toArray, List.set_cons_zero, List.set_cons_succ]
  refine wpAnyH_ready (rs := [29]) (by kernel_rfl) (by simp) ?_
  refine AllReadyH.cons (o := _) rfl (fun K hK => ?_) AllReadyH.nil
  go_simp
  (with_reducible refine (has_any s.peak t.peak _).mono ?_)
  rintro e v5 ⟨rfl, hb⟩
  rw [HB3.out]
  refine hK.out _ _ (hS.step1 hb) (fun hS => ?_)
  clear hK K
  try simp only [List.setIfInBounds_toArray, List.set_cons_zero, List.set_cons_succ]
  refine tkH (i := 30) (v := ?_) (fun V hV => ?_) ?_
  rotate_left
  · go_simp
    try with_reducible rfl
  try simp only [Act.put, List.getElem_toArray, List.getElem_cons_zero, List.getElem_cons_succ, List.setIfInBounds_toArray, List.set_cons_zero, List.set_cons_succ]
  refine tkH (i := 31) (v := ?_) (fun V hV => ?_) ?_
  rotate_left
  · go_simp
    try with_reducible rfl
  try simp only [Act.put, List.getElem_toArray, List.getElem_cons_zero, List.getElem_cons_succ, List.setIfInBounds_toArray, List.set_cons_zero, List.set_cons_succ]
  refine tkH (i := 32) (v := ?_) (fun V hV => ?_) ?_
  rotate_left
  · have e0 := (StoAt.of hV.cell1).c0; have e1 := (StoAt.of hV.cell1).c1; have e2 := (StoAt.of hV.cell1).c2; have e3 := (StoAt.of hV.cell1).c3; have e4 := (StoAt.of hV.cell1).c4; have e5 := (StoAt.of hV.cell1).c5; have e6 := (StoAt.of hV.cell1).c6; have e7 := (StoAt.of hV.cell1).c7; have e8 := (StoAt.of hV.cell1).c8; have e9 := (StoAt.of hV.cell1).c9; have e10 := (StoAt.of hV.cell1).c10; have e11 := (StoAt.of hV.cell1).c11; go_simp
    try with_reducible rfl
  try simp only [Act.put, List.getElem_toArray, List.getElem_cons_zero, List.getElem_cons_succ, List.setIfInBounds_toArray, List.set_cons_zero, List.set_cons_succ]
  refine tkH (i := 34) (v := ?_) (fun V hV => ?_) ?_
  rotate_left
  · have f0 := (TruAt.of hV.cell2).c0; have f1 := (TruAt.of hV.cell2).c1; have f2 := (TruAt.of hV.cell2).c2; have f3 := (TruAt.of hV.cell2).c3; go_simp
    try with_reducible rfl
  try simp only [Act.put, List.getElem_toArray, List.getElem_cons_zero, List.getElem_cons_succ, List.setIfInBounds_toArray, List.set_cons_zero, List.set_cons_succ]
  refine wpAnyH_ready (rs := [33]) (by kernel_rfl) (by simp) ?_
  refine AllReadyH.cons (o := _) rfl (fun K hK => ?_) AllReadyH.nil
  go_simp
  (with_reducible refine (work_any s p n c _).mono ?_)
  rintro e v8 ⟨rfl, hwk, hmp, hz3, hb⟩
  have HWK := hid hwk; have HMP := hid hmp; have HZ3 := hid hz3; have HL8 := hid (HC.out.below (hS.step1 hb).below); have HS7 := hid hS
  clear hwk hmp hz3
  refine hK.out _ _ (hS.step1 hb) (fun hS => ?_)
  clear hK K
  try simp only [List.setIfInBounds_toArray, List.set_cons_zero, List.set_cons_succ]
  refine wpAnyH_ready (rs := [35]) (by kernel_rfl) (by simp) ?_
  refine AllReadyH.cons (o := _) rfl (fun K hK => ?_) AllReadyH.nil
  go_simp
  (with_reducible refine (right6_any s p n c t _ _ 0 (fun _ => none) _ HWK.out HL8.out HMP.out (knows_nil s) (by unfold maxLen; omega) HOK.out HTR.out).mono ?_)
  rintro e v9 ⟨rfl, M', hM', hKn', hn3⟩
  unfold B6
  refine hK.out _ _ (hS.near hn3 (fun k hk => by have := HS7.out.size; omega)) (fun hS => ?_)
  clear hK K
  try simp only [List.setIfInBounds_toArray, List.set_cons_zero, List.set_cons_succ]
  refine wpAnyH_ready (rs := [36]) (by kernel_rfl) (by simp) ?_
  refine AllReadyH.cons (o := _) rfl (fun K hK => ?_) AllReadyH.nil
  go_simp
  (with_reducible refine (every6_any _).mono ?_)
  rintro e v10 ⟨rfl, hb⟩
  refine hK.out _ _ (hS.step1 hb) (fun hS => ?_)
  clear hK K
  try simp only [List.setIfInBounds_toArray, List.set_cons_zero, List.set_cons_succ]
  refine tkH (i := 37) (v := ?_) (fun V hV => ?_) ?_
  rotate_left
  · have q := HE6.out V; go_simp
    try with_reducible rfl
  try simp only [Act.put, List.getElem_toArray, List.getElem_cons_zero, List.getElem_cons_succ, List.setIfInBounds_toArray, List.set_cons_zero, List.set_cons_succ]
  refine tkH (i := 38) (v := ?_) (fun V hV => ?_) ?_
  rotate_left
  · go_simp
    try with_reducible rfl
  try simp only [Act.put, List.getElem_toArray, List.getElem_cons_zero, List.getElem_cons_succ, List.setIfInBounds_toArray, List.set_cons_zero, List.set_cons_succ]
  refine tkH (i := 39) (v := ?_) (fun V hV => ?_) ?_
  rotate_left
  · go_simp
    try with_reducible rfl
  try simp only [Act.put, List.getElem_toArray, List.getElem_cons_zero, List.getElem_cons_succ, List.setIfInBounds_toArray, List.set_cons_zero, List.set_cons_succ]
  refine wpAnyH_done (by kernel_rfl) ?_ _
  have HS9 := hid hS
  clear hS
  go_wp2_with fail
  go_ret
  exact ⟨by rw [HRES.out]; rfl, HS9.out.below⟩

theorem prove_any (s : Sto) (p : Option Addr) (n c : Nat) (t : Tru) (w : World) (hcs : CrdsAt w p n s.cards) :
    Calls Try.prog 52 #[.agg #[.int .i64 s.wide, .int .i64 s.high, .int .i64 s.fall, .int .i64 s.a.lo, .int .i64 s.a.hi, .int .i64 s.b.lo, .int .i64 s.b.hi, .int .i64 s.half.lo, .int .i64 s.half.hi, .int .i64 s.peak.lo, .int .i64 s.peak.hi, .slice p n c], .agg #[.int .i64 t.a, .int .i64 t.b, .int .i64 t.half, .int .i64 t.peak]] w fun e w' => e = .returned (.bool (provedB s t)) ∧ Below w.heap.size w w' := by
  by_cases h0 : faultS s = 0
  · cases h1 : inB t.a s.a.lo s.a.hi
    · exact prove1 s p n c t w hcs h0 h1
    · cases h2 : inB t.b s.b.lo s.b.hi
      · exact prove2 s p n c t w hcs h0 h1 h2
      · cases h3 : inB t.half s.half.lo s.half.hi
        · exact prove3 s p n c t w hcs h0 h1 h2 h3
        · cases h4 : inB t.peak s.peak.lo s.peak.hi
          · exact prove4 s p n c t w hcs h0 h1 h2 h3 h4
          · exact prove5 s p n c t w hcs h0 h1 h2 h3 h4
  · exact prove0 s p n c t w hcs h0
end Go.Proofs.Ytfnefkenheglhaa
