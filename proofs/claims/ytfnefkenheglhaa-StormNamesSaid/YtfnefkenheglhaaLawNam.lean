/- The statement names: every name of a fault. No condition. -/
import Derived.Test.YtfnefkenheglhaaLawN1
namespace Go.Proofs.Ytfnefkenheglhaa
open Go.RowKit

set_option maxRecDepth 40000 in
set_option maxHeartbeats 16000000 in
theorem names_any (w : World) : Calls Try.prog 16 #[] w fun e w' => e = .returned (.bool true) ∧ Below w.heap.size w w' := by
  have HW : Hid (Below w.heap.size w w) := Below.refl _ _
  go_enter Try.func16, Try.ntmps16
  go_wp2_with fail
  refine (five3_any _).mono ?_
  rintro e w1 ⟨b, rfl, hc, hb⟩
  replace HW := hid (HW.out.trans (hb.mono HW.out.size))
  have HC := hid hc
  clear hc hb
  go_wp2_with fail
  refine (rect69_any 0 0 0 3 _).mono ?_
  rintro e w1 ⟨rfl, hb⟩
  replace HW := hid (HW.out.trans (hb.mono HW.out.size))
  have HC := hid (HC.out.below hb)
  clear hb
  go_wp2_with fail
  refine (verdict_any (fiveS 3) _ 3 4 ⟨0, 0⟩ ⟨0, 3⟩ _ HC.out).mono ?_
  rintro e w1 ⟨rfl, hb⟩
  replace HW := hid (HW.out.trans (hb.mono HW.out.size))
  rw [nm_ver.1, nm_ver.2]
  clear hb HC
  go_wp2_with fail
  refine (five3_any _).mono ?_
  rintro e w1 ⟨b, rfl, hc, hb⟩
  replace HW := hid (HW.out.trans (hb.mono HW.out.size))
  have HC := hid hc
  clear hc hb
  go_wp2_with fail
  refine (sizes_any (fiveS 3) _ 3 4 4 2 _ HC.out).mono ?_
  rintro e w1 ⟨rfl, hb⟩
  replace HW := hid (HW.out.trans (hb.mono HW.out.size))
  rw [nm_sz1.1, nm_sz1.2.1, nm_sz1.2.2]
  clear hb HC
  obtain ⟨W2, hW2⟩ : ∃ V, w1.alloc (.cells #[.int .i64 3, .int .i64 3] 29) = V := ⟨_, rfl⟩
  have hb : Below w1.heap.size w1 W2 := by rw [← hW2]; exact (Below.refl _ _).alloc (Nat.le_refl _) _
  replace HW := hid (HW.out.trans (hb.mono HW.out.size))
  have HZ : Hid (BoxIs w1.heap.size #[.int .i64 3, .int .i64 3] W2) := by show BoxIs _ _ _; rw [← hW2]; exact BoxIs.start _ _ _
  clear hb
  go_wp2_with fail
  refine (five3_any _).mono ?_
  rintro e w1 ⟨b, rfl, hc, hb⟩
  replace HW := hid (HW.out.trans (hb.mono HW.out.size))
  replace HZ := hid (HZ.out.below hb)
  have HC := hid hc
  clear hc hb
  clear hW2
  go_wp2_with fail
  refine (sizes_any (fiveS 3) _ 3 4 4 4 _ HC.out).mono ?_
  rintro e w1 ⟨rfl, hb⟩
  replace HW := hid (HW.out.trans (hb.mono HW.out.size))
  replace HZ := hid (HZ.out.below hb)
  rw [nm_sz2.1, nm_sz2.2.1, nm_sz2.2.2]
  clear hb HC
  go_upto_region 4 with fail
  obtain ⟨W2, hW2⟩ : ∃ V, w1.alloc (.cells #[.int .i64 0, .int .i64 0] 29) = V := ⟨_, rfl⟩
  have hb : Below w1.heap.size w1 W2 := by rw [← hW2]; exact (Below.refl _ _).alloc (Nat.le_refl _) _
  replace HW := hid (HW.out.trans (hb.mono HW.out.size))
  replace HZ := hid (HZ.out.below hb)
  have HF : Hid (BoxIs w1.heap.size #[.int .i64 0, .int .i64 0] W2) := by show BoxIs _ _ _; rw [← hW2]; exact BoxIs.start _ _ _
  clear hb
  go_wp2_with fail
  refine (five3_any _).mono ?_
  rintro e w1 ⟨b, rfl, hc, hb⟩
  replace HW := hid (HW.out.trans (hb.mono HW.out.size))
  replace HZ := hid (HZ.out.below hb)
  replace HF := hid (HF.out.below hb)
  have HC := hid hc
  clear hc hb
  clear hW2
  go_wp2_with fail
  refine (rect69_any 0 0 0 3 _).mono ?_
  rintro e w1 ⟨rfl, hb⟩
  replace HW := hid (HW.out.trans (hb.mono HW.out.size))
  replace HZ := hid (HZ.out.below hb)
  replace HF := hid (HF.out.below hb)
  have HC := hid (HC.out.below hb)
  clear hb
  go_wp2_with fail
  refine (show_any (fiveS 3) _ 3 4 ⟨0, 0⟩ ⟨0, 3⟩ false _ HC.out).mono ?_
  rintro e w1 ⟨rfl, hb⟩
  replace HW := hid (HW.out.trans (hb.mono HW.out.size))
  replace HZ := hid (HZ.out.below hb)
  replace HF := hid (HF.out.below hb)
  rw [nm_show.1, nm_show.2.1, nm_show.2.2.1, nm_show.2.2.2.1, nm_show.2.2.2.2]
  clear hb HC
  obtain ⟨W2, hW2⟩ : ∃ V, w1.alloc (.cells #[.int .i64 1, .int .i64 2, .int .i64 1, .int .i64 3] 94) = V := ⟨_, rfl⟩
  have hb : Below w1.heap.size w1 W2 := by rw [← hW2]; exact (Below.refl _ _).alloc (Nat.le_refl _) _
  replace HW := hid (HW.out.trans (hb.mono HW.out.size))
  replace HZ := hid (HZ.out.below hb)
  replace HF := hid (HF.out.below hb)
  have HT : Hid (BoxIs w1.heap.size #[.int .i64 1, .int .i64 2, .int .i64 1, .int .i64 3] W2) := by show BoxIs _ _ _; rw [← hW2]; exact BoxIs.start _ _ _
  clear hb
  go_wp2_with fail
  refine (five3_any _).mono ?_
  rintro e w1 ⟨b, rfl, hc, hb⟩
  replace HW := hid (HW.out.trans (hb.mono HW.out.size))
  replace HZ := hid (HZ.out.below hb)
  replace HF := hid (HF.out.below hb)
  replace HT := hid (HT.out.below hb)
  have HC := hid hc
  clear hc hb
  clear hW2
  go_wp2_with fail
  refine (leave_any (fiveS 3) _ 3 4 _ HC.out).mono ?_
  rintro e w1 ⟨q1, k1, d1, rfl, -, hx, hb⟩
  replace HW := hid (HW.out.trans (hb.mono HW.out.size))
  replace HZ := hid (HZ.out.below hb)
  replace HF := hid (HF.out.below hb)
  replace HT := hid (HT.out.below hb)
  have hl := hx ex_fault.2.1 [] nm_leave
  obtain rfl : k1 = 0 := hl.1
  rw [ex_fault.2.1]
  clear hb HC hx hl
  obtain ⟨W2, hW2⟩ : ∃ V, w1.alloc (.cells #[.int .i64 1, .int .i64 2, .int .i64 1, .int .i64 3] 94) = V := ⟨_, rfl⟩
  have hb : Below w1.heap.size w1 W2 := by rw [← hW2]; exact (Below.refl _ _).alloc (Nat.le_refl _) _
  replace HW := hid (HW.out.trans (hb.mono HW.out.size))
  replace HZ := hid (HZ.out.below hb)
  replace HF := hid (HF.out.below hb)
  replace HT := hid (HT.out.below hb)
  have HN : Hid (BoxIs w1.heap.size #[.int .i64 1, .int .i64 2, .int .i64 1, .int .i64 3] W2) := by show BoxIs _ _ _; rw [← hW2]; exact BoxIs.start _ _ _
  clear hb
  go_upto_region 7 with fail
  clear hW2
  refine wp_region_held_drew (S := fun V => Below W2.heap.size W2 V) (by kernel_rfl) ((Below.refl _ _).drew) (fun hS => ?_)
  simp only [List.size_toArray, List.length_cons, List.length_nil, Nat.reduceAdd, Array.replicate_succ, Array.replicate_zero, List.push_toArray, List.nil_append, List.cons_append]
  refine wpAnyH_take (i := 0) (v := ?_) rfl (by kernel_rfl) (by kernel_rfl) (by kernel_rfl) (fun _ _ _ h => h) (Or.inl ⟨by rfl, fun V hV => ?_⟩) (by assumption) ?_
  rotate_left
  · go_simp
    try with_reducible rfl
  try simp only [Act.put, List.getElem_toArray, List.getElem_cons_zero, List.setIfInBounds_toArray, List.set_cons_zero, List.set_cons_succ]
  refine wpAnyH_take (i := 1) (v := ?_) rfl (by kernel_rfl) (by kernel_rfl) (by kernel_rfl) (fun _ _ _ h => h) (Or.inl ⟨by rfl, fun V hV => ?_⟩) (by assumption) ?_
  rotate_left
  · go_simp
    try with_reducible rfl
  try simp only [Act.put, List.getElem_toArray, List.getElem_cons_zero, List.getElem_cons_succ, List.setIfInBounds_toArray, List.set_cons_zero, List.set_cons_succ]
  refine wpAnyH_take (i := 2) (v := ?_) rfl (by kernel_rfl) (by kernel_rfl) (by kernel_rfl) (fun _ _ _ h => h) (Or.inl ⟨by rfl, fun V hV => ?_⟩) (by assumption) ?_
  rotate_left
  · go_simp
    try with_reducible rfl
  try simp only [Act.put, List.getElem_toArray, List.getElem_cons_zero, List.getElem_cons_succ, List.setIfInBounds_toArray, List.set_cons_zero, List.set_cons_succ]
  refine wpAnyH_take (i := 3) (v := ?_) rfl (by kernel_rfl) (by kernel_rfl) (by kernel_rfl) (fun _ _ _ h => h) (Or.inl ⟨by rfl, fun V hV => ?_⟩) (by assumption) ?_
  rotate_left
  · go_simp
    try with_reducible rfl
  try simp only [Act.put, List.getElem_toArray, List.getElem_cons_zero, List.getElem_cons_succ, List.setIfInBounds_toArray, List.set_cons_zero, List.set_cons_succ]
  refine wpAnyH_take (i := 4) (v := ?_) rfl (by kernel_rfl) (by kernel_rfl) (by kernel_rfl) (fun _ _ _ h => h) (Or.inl ⟨by rfl, fun V hV => ?_⟩) (by assumption) ?_
  rotate_left
  · go_simp
    try with_reducible rfl
  try simp only [Act.put, List.getElem_toArray, List.getElem_cons_zero, List.getElem_cons_succ, List.setIfInBounds_toArray, List.set_cons_zero, List.set_cons_succ]
  refine wpAnyH_take (i := 5) (v := ?_) rfl (by kernel_rfl) (by kernel_rfl) (by kernel_rfl) (fun _ _ _ h => h) (Or.inl ⟨by rfl, fun V hV => ?_⟩) (by assumption) ?_
  rotate_left
  · go_simp
    try with_reducible rfl
  try simp only [Act.put, List.getElem_toArray, List.getElem_cons_zero, List.getElem_cons_succ, List.setIfInBounds_toArray, List.set_cons_zero, List.set_cons_succ]
  refine wpAnyH_take (i := 6) (v := ?_) rfl (by kernel_rfl) (by kernel_rfl) (by kernel_rfl) (fun _ _ _ h => h) (Or.inl ⟨by rfl, fun V hV => ?_⟩) (by assumption) ?_
  rotate_left
  · go_simp
    try with_reducible rfl
  try simp only [Act.put, List.getElem_toArray, List.getElem_cons_zero, List.getElem_cons_succ, List.setIfInBounds_toArray, List.set_cons_zero, List.set_cons_succ]
  refine wpAnyH_take (i := 7) (v := ?_) rfl (by kernel_rfl) (by kernel_rfl) (by kernel_rfl) (fun _ _ _ h => h) (Or.inl ⟨by rfl, fun V hV => ?_⟩) (by assumption) ?_
  rotate_left
  · go_simp
    try with_reducible rfl
  try simp only [Act.put, List.getElem_toArray, List.getElem_cons_zero, List.getElem_cons_succ, List.setIfInBounds_toArray, List.set_cons_zero, List.set_cons_succ]
  refine wpAnyH_take (i := 8) (v := ?_) rfl (by kernel_rfl) (by kernel_rfl) (by kernel_rfl) (fun _ _ _ h => h) (Or.inl ⟨by rfl, fun V hV => ?_⟩) (by assumption) ?_
  rotate_left
  · go_simp
    try with_reducible rfl
  try simp only [Act.put, List.getElem_toArray, List.getElem_cons_zero, List.getElem_cons_succ, List.setIfInBounds_toArray, List.set_cons_zero, List.set_cons_succ]
  refine wpAnyH_take (i := 9) (v := ?_) rfl (by kernel_rfl) (by kernel_rfl) (by kernel_rfl) (fun _ _ _ h => h) (Or.inl ⟨by rfl, fun V hV => ?_⟩) (by assumption) ?_
  rotate_left
  · go_simp
    try with_reducible rfl
  try simp only [Act.put, List.getElem_toArray, List.getElem_cons_zero, List.getElem_cons_succ, List.setIfInBounds_toArray, List.set_cons_zero, List.set_cons_succ]
  refine wpAnyH_take (i := 10) (v := ?_) rfl (by kernel_rfl) (by kernel_rfl) (by kernel_rfl) (fun _ _ _ h => h) (Or.inl ⟨by rfl, fun V hV => ?_⟩) (by assumption) ?_
  rotate_left
  · go_simp
    try with_reducible rfl
  try simp only [Act.put, List.getElem_toArray, List.getElem_cons_zero, List.getElem_cons_succ, List.setIfInBounds_toArray, List.set_cons_zero, List.set_cons_succ]
  refine wpAnyH_take (i := 11) (v := ?_) rfl (by kernel_rfl) (by kernel_rfl) (by kernel_rfl) (fun _ _ _ h => h) (Or.inl ⟨by rfl, fun V hV => ?_⟩) (by assumption) ?_
  rotate_left
  · have hX := HZ.out.below hV; have e0 := (hX.2 0 (.int .i64 3) rfl).1; have e1 := (hX.2 1 (.int .i64 3) rfl).1; go_simp
    try with_reducible rfl
  try simp only [Act.put, List.getElem_toArray, List.getElem_cons_zero, List.getElem_cons_succ, List.setIfInBounds_toArray, List.set_cons_zero, List.set_cons_succ]
  refine wpAnyH_ready (rs := [12]) (by kernel_rfl) (by simp) ?_
  refine AllReadyH.cons (o := _) rfl (fun K hK => ?_) AllReadyH.nil
  go_simp
  (with_reducible refine (between_any 3 3 _).mono ?_)
  rintro e v12 ⟨rfl, hb⟩
  refine hK.out _ _ (hS.trans (hb.mono hS.size)) (fun hS => ?_)
  clear hK K
  try simp only [List.setIfInBounds_toArray, List.set_cons_zero, List.set_cons_succ]
  refine wpAnyH_take (i := 13) (v := ?_) rfl (by kernel_rfl) (by kernel_rfl) (by kernel_rfl) (fun _ _ _ h => h) (Or.inl ⟨by rfl, fun V hV => ?_⟩) (by assumption) ?_
  rotate_left
  · go_simp
    try with_reducible rfl
  try simp only [Act.put, List.getElem_toArray, List.getElem_cons_zero, List.getElem_cons_succ, List.setIfInBounds_toArray, List.set_cons_zero, List.set_cons_succ]
  refine wpAnyH_take (i := 14) (v := ?_) rfl (by kernel_rfl) (by kernel_rfl) (by kernel_rfl) (fun _ _ _ h => h) (Or.inl ⟨by rfl, fun V hV => ?_⟩) (by assumption) ?_
  rotate_left
  · go_simp
    try with_reducible rfl
  try simp only [Act.put, List.getElem_toArray, List.getElem_cons_zero, List.getElem_cons_succ, List.setIfInBounds_toArray, List.set_cons_zero, List.set_cons_succ]
  refine wpAnyH_take (i := 15) (v := ?_) rfl (by kernel_rfl) (by kernel_rfl) (by kernel_rfl) (fun _ _ _ h => h) (Or.inl ⟨by rfl, fun V hV => ?_⟩) (by assumption) ?_
  rotate_left
  · go_simp
    try with_reducible rfl
  try simp only [Act.put, List.getElem_toArray, List.getElem_cons_zero, List.getElem_cons_succ, List.setIfInBounds_toArray, List.set_cons_zero, List.set_cons_succ]
  refine wpAnyH_take (i := 16) (v := ?_) rfl (by kernel_rfl) (by kernel_rfl) (by kernel_rfl) (fun _ _ _ h => h) (Or.inl ⟨by rfl, fun V hV => ?_⟩) (by assumption) ?_
  rotate_left
  · go_simp
    try with_reducible rfl
  try simp only [Act.put, List.getElem_toArray, List.getElem_cons_zero, List.getElem_cons_succ, List.setIfInBounds_toArray, List.set_cons_zero, List.set_cons_succ]
  refine wpAnyH_take (i := 17) (v := ?_) rfl (by kernel_rfl) (by kernel_rfl) (by kernel_rfl) (fun _ _ _ h => h) (Or.inl ⟨by rfl, fun V hV => ?_⟩) (by assumption) ?_
  rotate_left
  · go_simp
    try with_reducible rfl
  try simp only [Act.put, List.getElem_toArray, List.getElem_cons_zero, List.getElem_cons_succ, List.setIfInBounds_toArray, List.set_cons_zero, List.set_cons_succ]
  refine wpAnyH_take (i := 18) (v := ?_) rfl (by kernel_rfl) (by kernel_rfl) (by kernel_rfl) (fun _ _ _ h => h) (Or.inl ⟨by rfl, fun V hV => ?_⟩) (by assumption) ?_
  rotate_left
  · go_simp
    try with_reducible rfl
  try simp only [Act.put, List.getElem_toArray, List.getElem_cons_zero, List.getElem_cons_succ, List.setIfInBounds_toArray, List.set_cons_zero, List.set_cons_succ]
  refine wpAnyH_take (i := 19) (v := ?_) rfl (by kernel_rfl) (by kernel_rfl) (by kernel_rfl) (fun _ _ _ h => h) (Or.inl ⟨by rfl, fun V hV => ?_⟩) (by assumption) ?_
  rotate_left
  · go_simp
    try with_reducible rfl
  try simp only [Act.put, List.getElem_toArray, List.getElem_cons_zero, List.getElem_cons_succ, List.setIfInBounds_toArray, List.set_cons_zero, List.set_cons_succ]
  refine wpAnyH_take (i := 20) (v := ?_) rfl (by kernel_rfl) (by kernel_rfl) (by kernel_rfl) (fun _ _ _ h => h) (Or.inl ⟨by rfl, fun V hV => ?_⟩) (by assumption) ?_
  rotate_left
  · have hX := HF.out.below hV; have e0 := (hX.2 0 (.int .i64 0) rfl).1; have e1 := (hX.2 1 (.int .i64 0) rfl).1; go_simp
    try with_reducible rfl
  try simp only [Act.put, List.getElem_toArray, List.getElem_cons_zero, List.getElem_cons_succ, List.setIfInBounds_toArray, List.set_cons_zero, List.set_cons_succ]
  refine wpAnyH_ready (rs := [21]) (by kernel_rfl) (by simp) ?_
  refine AllReadyH.cons (o := _) rfl (fun K hK => ?_) AllReadyH.nil
  go_simp
  (with_reducible refine (between_any 0 0 _).mono ?_)
  rintro e v21 ⟨rfl, hb⟩
  refine hK.out _ _ (hS.trans (hb.mono hS.size)) (fun hS => ?_)
  clear hK K
  try simp only [List.setIfInBounds_toArray, List.set_cons_zero, List.set_cons_succ]
  refine wpAnyH_take (i := 22) (v := ?_) rfl (by kernel_rfl) (by kernel_rfl) (by kernel_rfl) (fun _ _ _ h => h) (Or.inl ⟨by rfl, fun V hV => ?_⟩) (by assumption) ?_
  rotate_left
  · go_simp
    try with_reducible rfl
  try simp only [Act.put, List.getElem_toArray, List.getElem_cons_zero, List.getElem_cons_succ, List.setIfInBounds_toArray, List.set_cons_zero, List.set_cons_succ]
  refine wpAnyH_take (i := 23) (v := ?_) rfl (by kernel_rfl) (by kernel_rfl) (by kernel_rfl) (fun _ _ _ h => h) (Or.inl ⟨by rfl, fun V hV => ?_⟩) (by assumption) ?_
  rotate_left
  · go_simp
    try with_reducible rfl
  try simp only [Act.put, List.getElem_toArray, List.getElem_cons_zero, List.getElem_cons_succ, List.setIfInBounds_toArray, List.set_cons_zero, List.set_cons_succ]
  refine wpAnyH_take (i := 24) (v := ?_) rfl (by kernel_rfl) (by kernel_rfl) (by kernel_rfl) (fun _ _ _ h => h) (Or.inl ⟨by rfl, fun V hV => ?_⟩) (by assumption) ?_
  rotate_left
  · go_simp
    try with_reducible rfl
  try simp only [Act.put, List.getElem_toArray, List.getElem_cons_zero, List.getElem_cons_succ, List.setIfInBounds_toArray, List.set_cons_zero, List.set_cons_succ]
  refine wpAnyH_take (i := 25) (v := ?_) rfl (by kernel_rfl) (by kernel_rfl) (by kernel_rfl) (fun _ _ _ h => h) (Or.inl ⟨by rfl, fun V hV => ?_⟩) (by assumption) ?_
  rotate_left
  · go_simp
    try with_reducible rfl
  try simp only [Act.put, List.getElem_toArray, List.getElem_cons_zero, List.getElem_cons_succ, List.setIfInBounds_toArray, List.set_cons_zero, List.set_cons_succ]
  refine wpAnyH_take (i := 26) (v := ?_) rfl (by kernel_rfl) (by kernel_rfl) (by kernel_rfl) (fun _ _ _ h => h) (Or.inl ⟨by rfl, fun V hV => ?_⟩) (by assumption) ?_
  rotate_left
  · go_simp
    try with_reducible rfl
  try simp only [Act.put, List.getElem_toArray, List.getElem_cons_zero, List.getElem_cons_succ, List.setIfInBounds_toArray, List.set_cons_zero, List.set_cons_succ]
  refine wpAnyH_take (i := 27) (v := ?_) rfl (by kernel_rfl) (by kernel_rfl) (by kernel_rfl) (fun _ _ _ h => h) (Or.inl ⟨by rfl, fun V hV => ?_⟩) (by assumption) ?_
  rotate_left
  · go_simp
    try with_reducible rfl
  try simp only [Act.put, List.getElem_toArray, List.getElem_cons_zero, List.getElem_cons_succ, List.setIfInBounds_toArray, List.set_cons_zero, List.set_cons_succ]
  refine wpAnyH_take (i := 28) (v := ?_) rfl (by kernel_rfl) (by kernel_rfl) (by kernel_rfl) (fun _ _ _ h => h) (Or.inl ⟨by rfl, fun V hV => ?_⟩) (by assumption) ?_
  rotate_left
  · go_simp
    try with_reducible rfl
  try simp only [Act.put, List.getElem_toArray, List.getElem_cons_zero, List.getElem_cons_succ, List.setIfInBounds_toArray, List.set_cons_zero, List.set_cons_succ]
  refine wpAnyH_take (i := 29) (v := ?_) rfl (by kernel_rfl) (by kernel_rfl) (by kernel_rfl) (fun _ _ _ h => h) (Or.inl ⟨by rfl, fun V hV => ?_⟩) (by assumption) ?_
  rotate_left
  · have hX := HT.out.below hV; have e0 := (hX.2 0 (.int .i64 1) rfl).1; have e1 := (hX.2 1 (.int .i64 2) rfl).1; have e2 := (hX.2 2 (.int .i64 1) rfl).1; have e3 := (hX.2 3 (.int .i64 3) rfl).1; go_simp
    try with_reducible rfl
  try simp only [Act.put, List.getElem_toArray, List.getElem_cons_zero, List.getElem_cons_succ, List.setIfInBounds_toArray, List.set_cons_zero, List.set_cons_succ]
  refine wpAnyH_take (i := 30) (v := ?_) rfl (by kernel_rfl) (by kernel_rfl) (by kernel_rfl) (fun _ _ _ h => h) (Or.inl ⟨by rfl, fun V hV => ?_⟩) (by assumption) ?_
  rotate_left
  · have hX := HN.out.below hV; have e0 := (hX.2 0 (.int .i64 1) rfl).1; have e1 := (hX.2 1 (.int .i64 2) rfl).1; have e2 := (hX.2 2 (.int .i64 1) rfl).1; have e3 := (hX.2 3 (.int .i64 3) rfl).1; go_simp
    try with_reducible rfl
  try simp only [Act.put, List.getElem_toArray, List.getElem_cons_zero, List.getElem_cons_succ, List.setIfInBounds_toArray, List.set_cons_zero, List.set_cons_succ]
  refine wpAnyH_take (i := 31) (v := ?_) rfl (by kernel_rfl) (by kernel_rfl) (by kernel_rfl) (fun _ _ _ h => h) (Or.inl ⟨by rfl, fun V hV => ?_⟩) (by assumption) ?_
  rotate_left
  · go_simp
    try with_reducible rfl
  try simp only [Act.put, List.getElem_toArray, List.getElem_cons_zero, List.getElem_cons_succ, List.setIfInBounds_toArray, List.set_cons_zero, List.set_cons_succ]
  refine wpAnyH_take (i := 32) (v := ?_) rfl (by kernel_rfl) (by kernel_rfl) (by kernel_rfl) (fun _ _ _ h => h) (Or.inl ⟨by rfl, fun V hV => ?_⟩) (by assumption) ?_
  rotate_left
  · go_simp
    try with_reducible rfl
  try simp only [Act.put, List.getElem_toArray, List.getElem_cons_zero, List.getElem_cons_succ, List.setIfInBounds_toArray, List.set_cons_zero, List.set_cons_succ]
  refine wpAnyH_take (i := 33) (v := ?_) rfl (by kernel_rfl) (by kernel_rfl) (by kernel_rfl) (fun _ _ _ h => h) (Or.inl ⟨by rfl, fun V hV => ?_⟩) (by assumption) ?_
  rotate_left
  · go_simp
    try with_reducible rfl
  try simp only [Act.put, List.getElem_toArray, List.getElem_cons_zero, List.getElem_cons_succ, List.setIfInBounds_toArray, List.set_cons_zero, List.set_cons_succ]
  refine wpAnyH_take (i := 34) (v := ?_) rfl (by kernel_rfl) (by kernel_rfl) (by kernel_rfl) (fun _ _ _ h => h) (Or.inl ⟨by rfl, fun V hV => ?_⟩) (by assumption) ?_
  rotate_left
  · go_simp
    try with_reducible rfl
  try simp only [Act.put, List.getElem_toArray, List.getElem_cons_zero, List.getElem_cons_succ, List.setIfInBounds_toArray, List.set_cons_zero, List.set_cons_succ]
  refine wpAnyH_take (i := 35) (v := ?_) rfl (by kernel_rfl) (by kernel_rfl) (by kernel_rfl) (fun _ _ _ h => h) (Or.inl ⟨by rfl, fun V hV => ?_⟩) (by assumption) ?_
  rotate_left
  · go_simp
    try with_reducible rfl
  try simp only [Act.put, List.getElem_toArray, List.getElem_cons_zero, List.getElem_cons_succ, List.setIfInBounds_toArray, List.set_cons_zero, List.set_cons_succ]
  refine wpAnyH_take (i := 36) (v := ?_) rfl (by kernel_rfl) (by kernel_rfl) (by kernel_rfl) (fun _ _ _ h => h) (Or.inl ⟨by rfl, fun V hV => ?_⟩) (by assumption) ?_
  rotate_left
  · go_simp
    try with_reducible rfl
  try simp only [Act.put, List.getElem_toArray, List.getElem_cons_zero, List.getElem_cons_succ, List.setIfInBounds_toArray, List.set_cons_zero, List.set_cons_succ]
  refine wpAnyH_take (i := 37) (v := ?_) rfl (by kernel_rfl) (by kernel_rfl) (by kernel_rfl) (fun _ _ _ h => h) (Or.inl ⟨by rfl, fun V hV => ?_⟩) (by assumption) ?_
  rotate_left
  · go_simp
    try with_reducible rfl
  try simp only [Act.put, List.getElem_toArray, List.getElem_cons_zero, List.getElem_cons_succ, List.setIfInBounds_toArray, List.set_cons_zero, List.set_cons_succ]
  refine wpAnyH_take (i := 38) (v := ?_) rfl (by kernel_rfl) (by kernel_rfl) (by kernel_rfl) (fun _ _ _ h => h) (Or.inl ⟨by rfl, fun V hV => ?_⟩) (by assumption) ?_
  rotate_left
  · go_simp
    try with_reducible rfl
  try simp only [Act.put, List.getElem_toArray, List.getElem_cons_zero, List.getElem_cons_succ, List.setIfInBounds_toArray, List.set_cons_zero, List.set_cons_succ]
  refine wpAnyH_take (i := 39) (v := ?_) rfl (by kernel_rfl) (by kernel_rfl) (by kernel_rfl) (fun _ _ _ h => h) (Or.inl ⟨by rfl, fun V hV => ?_⟩) (by assumption) ?_
  rotate_left
  · go_simp
    try with_reducible rfl
  try simp only [Act.put, List.getElem_toArray, List.getElem_cons_zero, List.getElem_cons_succ, List.setIfInBounds_toArray, List.set_cons_zero, List.set_cons_succ]
  refine wpAnyH_take (i := 40) (v := ?_) rfl (by kernel_rfl) (by kernel_rfl) (by kernel_rfl) (fun _ _ _ h => h) (Or.inl ⟨by rfl, fun V hV => ?_⟩) (by assumption) ?_
  rotate_left
  · go_simp
    try with_reducible rfl
  try simp only [Act.put, List.getElem_toArray, List.getElem_cons_zero, List.getElem_cons_succ, List.setIfInBounds_toArray, List.set_cons_zero, List.set_cons_succ]
  refine wpAnyH_take (i := 41) (v := ?_) rfl (by kernel_rfl) (by kernel_rfl) (by kernel_rfl) (fun _ _ _ h => h) (Or.inl ⟨by rfl, fun V hV => ?_⟩) (by assumption) ?_
  rotate_left
  · go_simp
    try with_reducible rfl
  try simp only [Act.put, List.getElem_toArray, List.getElem_cons_zero, List.getElem_cons_succ, List.setIfInBounds_toArray, List.set_cons_zero, List.set_cons_succ]
  refine wpAnyH_take (i := 42) (v := ?_) rfl (by kernel_rfl) (by kernel_rfl) (by kernel_rfl) (fun _ _ _ h => h) (Or.inl ⟨by rfl, fun V hV => ?_⟩) (by assumption) ?_
  rotate_left
  · go_simp
    try with_reducible rfl
  try simp only [Act.put, List.getElem_toArray, List.getElem_cons_zero, List.getElem_cons_succ, List.setIfInBounds_toArray, List.set_cons_zero, List.set_cons_succ]
  refine wpAnyH_take (i := 44) (v := ?_) rfl (by kernel_rfl) (by kernel_rfl) (by kernel_rfl) (fun _ _ _ h => h) (Or.inl ⟨by rfl, fun V hV => ?_⟩) (by assumption) ?_
  rotate_left
  · have hX := HN.out.below hV; have e0 := (hX.2 0 (.int .i64 1) rfl).1; have e1 := (hX.2 1 (.int .i64 2) rfl).1; have e2 := (hX.2 2 (.int .i64 1) rfl).1; have e3 := (hX.2 3 (.int .i64 3) rfl).1; go_simp
    try with_reducible rfl
  try simp only [Act.put, List.getElem_toArray, List.getElem_cons_zero, List.getElem_cons_succ, List.setIfInBounds_toArray, List.set_cons_zero, List.set_cons_succ]
  refine wpAnyH_ready (rs := [43]) (by kernel_rfl) (by simp) ?_
  refine AllReadyH.cons (o := _) rfl (fun K hK => ?_) AllReadyH.nil
  go_simp
  (with_reducible refine (five3_any _).mono ?_)
  rintro e v43 ⟨b43, rfl, hc43, hb⟩
  refine hK.out _ _ (hS.trans (hb.mono hS.size)) (fun hS => ?_)
  clear hK K
  try simp only [List.setIfInBounds_toArray, List.set_cons_zero, List.set_cons_succ]
  refine wpAnyH_ready (rs := [45]) (by kernel_rfl) (by simp) ?_
  refine AllReadyH.cons (o := _) rfl (fun K hK => ?_) AllReadyH.nil
  go_simp
  (with_reducible refine (prove_any (fiveS 3) _ 3 4 ⟨1, 2, 1, 3⟩ _ hc43).mono ?_)
  rintro e v45 ⟨rfl, hb⟩
  rw [nm_prove.1]
  refine hK.out _ _ (hS.trans (hb.mono hS.size)) (fun hS => ?_)
  clear hK K
  try simp only [List.setIfInBounds_toArray, List.set_cons_zero, List.set_cons_succ]
  refine wpAnyH_take (i := 46) (v := ?_) rfl (by kernel_rfl) (by kernel_rfl) (by kernel_rfl) (fun _ _ _ h => h) (Or.inl ⟨by rfl, fun V hV => ?_⟩) (by assumption) ?_
  rotate_left
  · go_simp
    try with_reducible rfl
  try simp only [Act.put, List.getElem_toArray, List.getElem_cons_zero, List.getElem_cons_succ, List.setIfInBounds_toArray, List.set_cons_zero, List.set_cons_succ]
  refine wpAnyH_take (i := 47) (v := ?_) rfl (by kernel_rfl) (by kernel_rfl) (by kernel_rfl) (fun _ _ _ h => h) (Or.inl ⟨by rfl, fun V hV => ?_⟩) (by assumption) ?_
  rotate_left
  · go_simp
    try with_reducible rfl
  try simp only [Act.put, List.getElem_toArray, List.getElem_cons_zero, List.getElem_cons_succ, List.setIfInBounds_toArray, List.set_cons_zero, List.set_cons_succ]
  refine wpAnyH_take (i := 48) (v := ?_) rfl (by kernel_rfl) (by kernel_rfl) (by kernel_rfl) (fun _ _ _ h => h) (Or.inl ⟨by rfl, fun V hV => ?_⟩) (by assumption) ?_
  rotate_left
  · go_simp
    try with_reducible rfl
  try simp only [Act.put, List.getElem_toArray, List.getElem_cons_zero, List.getElem_cons_succ, List.setIfInBounds_toArray, List.set_cons_zero, List.set_cons_succ]
  refine wpAnyH_take (i := 50) (v := ?_) rfl (by kernel_rfl) (by kernel_rfl) (by kernel_rfl) (fun _ _ _ h => h) (Or.inl ⟨by rfl, fun V hV => ?_⟩) (by assumption) ?_
  rotate_left
  · have hX := HN.out.below hV; have e0 := (hX.2 0 (.int .i64 1) rfl).1; have e1 := (hX.2 1 (.int .i64 2) rfl).1; have e2 := (hX.2 2 (.int .i64 1) rfl).1; have e3 := (hX.2 3 (.int .i64 3) rfl).1; go_simp
    try with_reducible rfl
  try simp only [Act.put, List.getElem_toArray, List.getElem_cons_zero, List.getElem_cons_succ, List.setIfInBounds_toArray, List.set_cons_zero, List.set_cons_succ]
  refine wpAnyH_ready (rs := [49]) (by kernel_rfl) (by simp) ?_
  refine AllReadyH.cons (o := _) rfl (fun K hK => ?_) AllReadyH.nil
  go_simp
  (with_reducible refine (five4_any _).mono ?_)
  rintro e v49 ⟨b49, rfl, hc49, hb⟩
  refine hK.out _ _ (hS.trans (hb.mono hS.size)) (fun hS => ?_)
  clear hK K
  try simp only [List.setIfInBounds_toArray, List.set_cons_zero, List.set_cons_succ]
  refine wpAnyH_ready (rs := [51]) (by kernel_rfl) (by simp) ?_
  refine AllReadyH.cons (o := _) rfl (fun K hK => ?_) AllReadyH.nil
  go_simp
  (with_reducible refine (prove_any (fiveS 4) _ 4 4 ⟨1, 2, 1, 3⟩ _ hc49).mono ?_)
  rintro e v51 ⟨rfl, hb⟩
  rw [nm_prove.2.1]
  refine hK.out _ _ (hS.trans (hb.mono hS.size)) (fun hS => ?_)
  clear hK K
  try simp only [List.setIfInBounds_toArray, List.set_cons_zero, List.set_cons_succ]
  refine wpAnyH_take (i := 52) (v := ?_) rfl (by kernel_rfl) (by kernel_rfl) (by kernel_rfl) (fun _ _ _ h => h) (Or.inl ⟨by rfl, fun V hV => ?_⟩) (by assumption) ?_
  rotate_left
  · go_simp
    try with_reducible rfl
  try simp only [Act.put, List.getElem_toArray, List.getElem_cons_zero, List.getElem_cons_succ, List.setIfInBounds_toArray, List.set_cons_zero, List.set_cons_succ]
  refine wpAnyH_take (i := 53) (v := ?_) rfl (by kernel_rfl) (by kernel_rfl) (by kernel_rfl) (fun _ _ _ h => h) (Or.inl ⟨by rfl, fun V hV => ?_⟩) (by assumption) ?_
  rotate_left
  · go_simp
    try with_reducible rfl
  try simp only [Act.put, List.getElem_toArray, List.getElem_cons_zero, List.getElem_cons_succ, List.setIfInBounds_toArray, List.set_cons_zero, List.set_cons_succ]
  refine wpAnyH_take (i := 55) (v := ?_) rfl (by kernel_rfl) (by kernel_rfl) (by kernel_rfl) (fun _ _ _ h => h) (Or.inl ⟨by rfl, fun V hV => ?_⟩) (by assumption) ?_
  rotate_left
  · go_simp
    try with_reducible rfl
  try simp only [Act.put, List.getElem_toArray, List.getElem_cons_zero, List.getElem_cons_succ, List.setIfInBounds_toArray, List.set_cons_zero, List.set_cons_succ]
  refine wpAnyH_ready (rs := [54]) (by kernel_rfl) (by simp) ?_
  refine AllReadyH.cons (o := _) rfl (fun K hK => ?_) AllReadyH.nil
  go_simp
  (with_reducible refine (five3_any _).mono ?_)
  rintro e v54 ⟨b54, rfl, hc54, hb⟩
  refine hK.out _ _ (hS.trans (hb.mono hS.size)) (fun hS => ?_)
  clear hK K
  try simp only [List.setIfInBounds_toArray, List.set_cons_zero, List.set_cons_succ]
  refine wpAnyH_ready (rs := [56]) (by kernel_rfl) (by simp) ?_
  refine AllReadyH.cons (o := _) rfl (fun K hK => ?_) AllReadyH.nil
  go_simp
  (with_reducible refine (prove_any (fiveS 3) _ 3 4 ⟨1, 3, 1, 3⟩ _ hc54).mono ?_)
  rintro e v56 ⟨rfl, hb⟩
  rw [nm_prove.2.2]
  refine hK.out _ _ (hS.trans (hb.mono hS.size)) (fun hS => ?_)
  clear hK K
  try simp only [List.setIfInBounds_toArray, List.set_cons_zero, List.set_cons_succ]
  refine wpAnyH_take (i := 57) (v := ?_) rfl (by kernel_rfl) (by kernel_rfl) (by kernel_rfl) (fun _ _ _ h => h) (Or.inl ⟨by rfl, fun V hV => ?_⟩) (by assumption) ?_
  rotate_left
  · go_simp
    try with_reducible rfl
  try simp only [Act.put, List.getElem_toArray, List.getElem_cons_zero, List.getElem_cons_succ, List.setIfInBounds_toArray, List.set_cons_zero, List.set_cons_succ]
  refine wpAnyH_done (by kernel_rfl) ?_ _
  have HW : Hid (Below w.heap.size w _) := hid (HW.out.trans (hS.mono HW.out.size))
  clear HZ HF HT HN hS
  go_wp2_with fail
  refine (five4_any _).mono ?_
  rintro e w1 ⟨b, rfl, hc, hb⟩
  replace HW := hid (HW.out.trans (hb.mono HW.out.size))
  have HC := hid hc
  clear hc hb
  go_wp2_with fail
  refine (bounds_any (fiveS 4) _ 4 4 _ HC.out).mono ?_
  rintro e w1 ⟨q2, m2, d2, rfl, -, hb⟩
  replace HW := hid (HW.out.trans (hb.mono HW.out.size))
  rw [nm_err.1]
  clear hb HC
  go_wp2_with fail
  refine (five4_any _).mono ?_
  rintro e w1 ⟨b, rfl, hc, hb⟩
  replace HW := hid (HW.out.trans (hb.mono HW.out.size))
  have HC := hid hc
  clear hc hb
  go_wp2_with fail
  refine (rect69_any 0 5 0 0 _).mono ?_
  rintro e w1 ⟨rfl, hb⟩
  replace HW := hid (HW.out.trans (hb.mono HW.out.size))
  have HC := hid (HC.out.below hb)
  clear hb
  go_wp2_with fail
  refine (verdict_any (fiveS 4) _ 4 4 ⟨0, 5⟩ ⟨0, 0⟩ _ HC.out).mono ?_
  rintro e w1 ⟨rfl, hb⟩
  replace HW := hid (HW.out.trans (hb.mono HW.out.size))
  rw [nm_err.2.1]
  clear hb HC
  go_wp2_with fail
  refine (five3_any _).mono ?_
  rintro e w1 ⟨b, rfl, hc, hb⟩
  replace HW := hid (HW.out.trans (hb.mono HW.out.size))
  have HC := hid hc
  clear hc hb
  go_wp2_with fail
  refine (rect69_any 0 4 4 4 _).mono ?_
  rintro e w1 ⟨rfl, hb⟩
  replace HW := hid (HW.out.trans (hb.mono HW.out.size))
  have HC := hid (HC.out.below hb)
  clear hb
  go_wp2_with fail
  refine (show_any (fiveS 3) _ 3 4 ⟨0, 4⟩ ⟨4, 4⟩ true _ HC.out).mono ?_
  rintro e w1 ⟨rfl, hb⟩
  replace HW := hid (HW.out.trans (hb.mono HW.out.size))
  rw [nm_err.2.2.1]
  clear hb HC
  go_wp2_with fail
  refine (five3_any _).mono ?_
  rintro e w1 ⟨b, rfl, hc, hb⟩
  replace HW := hid (HW.out.trans (hb.mono HW.out.size))
  have HC := hid hc
  clear hc hb
  go_wp2_with fail
  refine (sizes_any (fiveS 3) _ 3 4 0 5 _ HC.out).mono ?_
  rintro e w1 ⟨rfl, hb⟩
  replace HW := hid (HW.out.trans (hb.mono HW.out.size))
  rw [nm_err.2.2.2.1]
  clear hb HC
  go_wp2_with fail
  refine (five3_any _).mono ?_
  rintro e w1 ⟨b, rfl, hc, hb⟩
  replace HW := hid (HW.out.trans (hb.mono HW.out.size))
  have HC := hid hc
  clear hc hb
  go_wp2_with fail
  refine (first_any (fiveS 3) _ 3 4 _ HC.out).mono ?_
  rintro e w1 ⟨rfl, hb⟩
  replace HW := hid (HW.out.trans (hb.mono HW.out.size))
  rw [nm_err.2.2.2.2.1]
  clear hb HC
  go_wp2_with fail
  refine (five3_any _).mono ?_
  rintro e w1 ⟨b, rfl, hc, hb⟩
  replace HW := hid (HW.out.trans (hb.mono HW.out.size))
  have HC := hid hc
  clear hc hb
  go_wp2_with fail
  refine (clashP_any (fiveS 3) _ 3 4 _ HC.out).mono ?_
  rintro e w1 ⟨q3, k3, d3, rfl, -, -, hb⟩
  replace HW := hid (HW.out.trans (hb.mono HW.out.size))
  rw [nm_err.2.2.2.2.2]
  clear hb HC
  go_wp2_with fail
  refine (five4_any _).mono ?_
  rintro e w1 ⟨b, rfl, hc, hb⟩
  replace HW := hid (HW.out.trans (hb.mono HW.out.size))
  have HC := hid hc
  clear hc hb
  go_wp2_with fail
  refine (best_any (fiveS 4) _ 4 4 _ HC.out).mono ?_
  rintro e w1 ⟨rfl, hb⟩
  replace HW := hid (HW.out.trans (hb.mono HW.out.size))
  rw [nm_err.1]
  clear hb HC
  go_upto_region 16 with fail
  generalize fiveS 3 = s3
  generalize fiveS 4 = s4
  clear hc43 hc49 hc54
  go_wp2_with fail
  refine (five3c_any _).mono ?_
  rintro e w1 ⟨b0, rfl, hlo0, hd0, hb⟩
  replace HW := hid (HW.out.trans (hb.mono HW.out.size))
  have HD0 := hid hd0
  clear hb hd0 hlo0
  go_wp2_with fail
  refine (five3c_any _).mono ?_
  rintro e w1 ⟨b1, rfl, hlo1, hd1, hb⟩
  have HO1 := hid (Nat.lt_of_lt_of_le HD0.out.1 hlo1)
  replace HW := hid (HW.out.trans (hb.mono HW.out.size))
  replace HD0 := hid (HD0.out.below hb)
  have HD1 := hid hd1
  clear hb hd1 hlo1
  go_wp2_with fail
  refine (five3c_any _).mono ?_
  rintro e w1 ⟨b2, rfl, hlo2, hd2, hb⟩
  have HO2 := hid (Nat.lt_of_lt_of_le HD1.out.1 hlo2)
  replace HW := hid (HW.out.trans (hb.mono HW.out.size))
  replace HD0 := hid (HD0.out.below hb)
  replace HD1 := hid (HD1.out.below hb)
  have HD2 := hid hd2
  clear hb hd2 hlo2
  go_wp2_with fail
  refine (five3c_any _).mono ?_
  rintro e w1 ⟨b3, rfl, hlo3, hd3, hb⟩
  have HLO3 := hid (Nat.le_trans HW.out.size hlo3)
  have HO3 := hid (Nat.lt_of_lt_of_le HD2.out.1 hlo3)
  replace HW := hid (HW.out.trans (hb.mono HW.out.size))
  replace HD0 := hid (HD0.out.below hb)
  replace HD1 := hid (HD1.out.below hb)
  replace HD2 := hid (HD2.out.below hb)
  have HD3 := hid hd3
  clear hb hd3 hlo3
  go_wp2_with fail
  refine (five3c_any _).mono ?_
  rintro e w1 ⟨b4, rfl, hlo4, hd4, hb⟩
  have HLO4 := hid (Nat.le_trans HW.out.size hlo4)
  have HO4 := hid (Nat.lt_of_lt_of_le HD3.out.1 hlo4)
  replace HW := hid (HW.out.trans (hb.mono HW.out.size))
  replace HD0 := hid (HD0.out.below hb)
  replace HD1 := hid (HD1.out.below hb)
  replace HD2 := hid (HD2.out.below hb)
  replace HD3 := hid (HD3.out.below hb)
  have HD4 := hid hd4
  clear hb hd4 hlo4
  go_wp2_with fail
  refine (five3c_any _).mono ?_
  rintro e w1 ⟨b5, rfl, hlo5, hd5, hb⟩
  have HO5 := hid (Nat.lt_of_lt_of_le HD4.out.1 hlo5)
  replace HW := hid (HW.out.trans (hb.mono HW.out.size))
  replace HD0 := hid (HD0.out.below hb)
  replace HD1 := hid (HD1.out.below hb)
  replace HD2 := hid (HD2.out.below hb)
  replace HD3 := hid (HD3.out.below hb)
  replace HD4 := hid (HD4.out.below hb)
  have HD5 := hid hd5
  clear hb hd5 hlo5
  go_wp2_with fail
  refine (five3c_any _).mono ?_
  rintro e w1 ⟨b6, rfl, hlo6, hd6, hb⟩
  have HO6 := hid (Nat.lt_of_lt_of_le HD5.out.1 hlo6)
  replace HW := hid (HW.out.trans (hb.mono HW.out.size))
  replace HD0 := hid (HD0.out.below hb)
  replace HD1 := hid (HD1.out.below hb)
  replace HD2 := hid (HD2.out.below hb)
  replace HD3 := hid (HD3.out.below hb)
  replace HD4 := hid (HD4.out.below hb)
  replace HD5 := hid (HD5.out.below hb)
  have HD6 := hid hd6
  clear hb hd6 hlo6
  have HL := hid (And.intro HO1.out (And.intro HO2.out (And.intro HO3.out (And.intro HO4.out (And.intro HO5.out (And.intro HO6.out HD6.out.1))))))
  obtain ⟨N, hN⟩ : ∃ N, w1.heap.size = N := ⟨_, rfl⟩
  rw [hN] at HL
  obtain ⟨W3, hW3⟩ : ∃ V, (((((((w1.alloc (.cells #[.int .i64 0, .int .i64 0, .int .i64 0, .int .i64 0, .int .i64 0, .int .i64 0, .int .i64 0, .int .i64 0, .int .i64 0, .int .i64 0, .int .i64 0, .slice none 0 0] 35)).alloc (.cells #[.int .i64 0, .int .i64 0, .int .i64 0, .int .i64 0, .int .i64 0, .int .i64 0, .int .i64 0, .int .i64 0, .int .i64 0, .int .i64 0, .int .i64 0, .slice none 0 0] 35)).alloc (.cells #[.int .i64 0, .int .i64 0, .int .i64 0, .int .i64 0, .int .i64 0, .int .i64 0, .int .i64 0, .int .i64 0, .int .i64 0, .int .i64 0, .int .i64 0, .slice none 0 0] 35)).alloc (.cells #[.int .i64 0, .int .i64 0, .int .i64 0, .int .i64 0, .int .i64 0, .int .i64 0, .int .i64 0, .int .i64 0, .int .i64 0, .int .i64 0, .int .i64 0, .slice none 0 0] 35)).alloc (.cells #[.int .i64 0, .int .i64 0, .int .i64 0, .int .i64 0, .int .i64 0, .int .i64 0, .int .i64 0, .int .i64 0, .int .i64 0, .int .i64 0, .int .i64 0, .slice none 0 0] 35)).alloc (.cells #[.int .i64 0, .int .i64 0, .int .i64 0, .int .i64 0, .int .i64 0, .int .i64 0, .int .i64 0, .int .i64 0, .int .i64 0, .int .i64 0, .int .i64 0, .slice none 0 0] 35)).alloc (.cells #[.int .i64 0, .int .i64 0, .int .i64 0, .int .i64 0, .int .i64 0, .int .i64 0, .int .i64 0, .int .i64 0, .int .i64 0, .int .i64 0, .int .i64 0, .slice none 0 0] 35)) = V := ⟨_, rfl⟩
  obtain ⟨z0, z1, z2, z3, z4, z5, z6, hb⟩ := seven_boxes hW3
  rw [hN] at z0 z1 z2 z3 z4 z5 z6
  have HB0 := hid z0
  have HB1 := hid z1
  have HB2 := hid z2
  have HB3 := hid z3
  have HB4 := hid z4
  have HB5 := hid z5
  have HB6 := hid z6
  replace HD0 := hid (HD0.out.below hb)
  replace HD1 := hid (HD1.out.below hb)
  replace HD2 := hid (HD2.out.below hb)
  replace HD3 := hid (HD3.out.below hb)
  replace HD4 := hid (HD4.out.below hb)
  replace HD5 := hid (HD5.out.below hb)
  have HW3 : Hid (Below w.heap.size w W3) := hid (HW.out.trans (hb.mono HW.out.size))
  have HLN : Hid (w.heap.size ≤ N) := hid (by rw [← hN]; exact HW.out.size)
  clear z0 z1 z2 z3 z4 z5 z6 hb
  go_upto_region 17 with (first | (refine store_box (by rfl) 35 (.tmp 18) (.tmp 151) (by rfl) N #[.int .i64 0, .int .i64 0, .int .i64 0, .int .i64 0, .int .i64 0, .int .i64 0, .int .i64 0, .int .i64 0, .int .i64 0, .int .i64 0, .int .i64 0, .slice none 0 0] #[.int .i64 5, .int .i64 5, .int .i64 1, .int .i64 0, .int .i64 4, .int .i64 0, .int .i64 4, .int .i64 1, .int .i64 1, .int .i64 3, .int .i64 3, .slice (some ⟨b0, 0, none⟩) 3 4] (by rfl) (by rfl) HB0.out 12 rfl rfl (by kernel_rfl) (by simp [Value.oneCell']) ?_; intro wx hx hn; replace HB0 := hid hx; replace HB1 := hid (HB1.out.far hn (by omega)); replace HB2 := hid (HB2.out.far hn (by omega)); replace HB3 := hid (HB3.out.far hn (by omega)); replace HB4 := hid (HB4.out.far hn (by omega)); replace HB5 := hid (HB5.out.far hn (by omega)); replace HB6 := hid (HB6.out.far hn (by omega)); replace HD0 := hid (HD0.out.far hn (by have := HL.out; omega)); replace HD1 := hid (HD1.out.far hn (by have := HL.out; omega)); replace HD2 := hid (HD2.out.far hn (by have := HL.out; omega)); replace HD3 := hid (HD3.out.far hn (by have := HL.out; omega)); replace HD4 := hid (HD4.out.far hn (by have := HL.out; omega)); replace HD5 := hid (HD5.out.far hn (by have := HL.out; omega)); have HWx := hid (HW3.out.trans (hn.below HW3.out.size (fun i hi h9 => by have := HLN.out; omega))); clear HW3; have HW3 := HWx; clear HWx hx hn) | (refine store_box (by rfl) 35 (.tmp 19) (.tmp 152) (by rfl) (N + 1) #[.int .i64 0, .int .i64 0, .int .i64 0, .int .i64 0, .int .i64 0, .int .i64 0, .int .i64 0, .int .i64 0, .int .i64 0, .int .i64 0, .int .i64 0, .slice none 0 0] #[.int .i64 5, .int .i64 5, .int .i64 1, .int .i64 0, .int .i64 4, .int .i64 0, .int .i64 4, .int .i64 1, .int .i64 1, .int .i64 3, .int .i64 3, .slice (some ⟨b1, 0, none⟩) 3 4] (by rfl) (by rfl) HB1.out 12 rfl rfl (by kernel_rfl) (by simp [Value.oneCell']) ?_; intro wx hx hn; replace HB1 := hid hx; replace HB0 := hid (HB0.out.far hn (by omega)); replace HB2 := hid (HB2.out.far hn (by omega)); replace HB3 := hid (HB3.out.far hn (by omega)); replace HB4 := hid (HB4.out.far hn (by omega)); replace HB5 := hid (HB5.out.far hn (by omega)); replace HB6 := hid (HB6.out.far hn (by omega)); replace HD0 := hid (HD0.out.far hn (by have := HL.out; omega)); replace HD1 := hid (HD1.out.far hn (by have := HL.out; omega)); replace HD2 := hid (HD2.out.far hn (by have := HL.out; omega)); replace HD3 := hid (HD3.out.far hn (by have := HL.out; omega)); replace HD4 := hid (HD4.out.far hn (by have := HL.out; omega)); replace HD5 := hid (HD5.out.far hn (by have := HL.out; omega)); have HWx := hid (HW3.out.trans (hn.below HW3.out.size (fun i hi h9 => by have := HLN.out; omega))); clear HW3; have HW3 := HWx; clear HWx hx hn) | (refine store_box (by rfl) 35 (.tmp 20) (.tmp 153) (by rfl) (N + 2) #[.int .i64 0, .int .i64 0, .int .i64 0, .int .i64 0, .int .i64 0, .int .i64 0, .int .i64 0, .int .i64 0, .int .i64 0, .int .i64 0, .int .i64 0, .slice none 0 0] #[.int .i64 5, .int .i64 5, .int .i64 1, .int .i64 0, .int .i64 4, .int .i64 0, .int .i64 4, .int .i64 1, .int .i64 1, .int .i64 3, .int .i64 3, .slice (some ⟨b2, 0, none⟩) 3 4] (by rfl) (by rfl) HB2.out 12 rfl rfl (by kernel_rfl) (by simp [Value.oneCell']) ?_; intro wx hx hn; replace HB2 := hid hx; replace HB0 := hid (HB0.out.far hn (by omega)); replace HB1 := hid (HB1.out.far hn (by omega)); replace HB3 := hid (HB3.out.far hn (by omega)); replace HB4 := hid (HB4.out.far hn (by omega)); replace HB5 := hid (HB5.out.far hn (by omega)); replace HB6 := hid (HB6.out.far hn (by omega)); replace HD0 := hid (HD0.out.far hn (by have := HL.out; omega)); replace HD1 := hid (HD1.out.far hn (by have := HL.out; omega)); replace HD2 := hid (HD2.out.far hn (by have := HL.out; omega)); replace HD3 := hid (HD3.out.far hn (by have := HL.out; omega)); replace HD4 := hid (HD4.out.far hn (by have := HL.out; omega)); replace HD5 := hid (HD5.out.far hn (by have := HL.out; omega)); have HWx := hid (HW3.out.trans (hn.below HW3.out.size (fun i hi h9 => by have := HLN.out; omega))); clear HW3; have HW3 := HWx; clear HWx hx hn) | (refine store_box (by rfl) 35 (.tmp 21) (.tmp 154) (by rfl) (N + 3) #[.int .i64 0, .int .i64 0, .int .i64 0, .int .i64 0, .int .i64 0, .int .i64 0, .int .i64 0, .int .i64 0, .int .i64 0, .int .i64 0, .int .i64 0, .slice none 0 0] #[.int .i64 5, .int .i64 5, .int .i64 1, .int .i64 0, .int .i64 4, .int .i64 0, .int .i64 4, .int .i64 1, .int .i64 1, .int .i64 3, .int .i64 3, .slice (some ⟨b3, 0, none⟩) 3 4] (by rfl) (by rfl) HB3.out 12 rfl rfl (by kernel_rfl) (by simp [Value.oneCell']) ?_; intro wx hx hn; replace HB3 := hid hx; replace HB0 := hid (HB0.out.far hn (by omega)); replace HB1 := hid (HB1.out.far hn (by omega)); replace HB2 := hid (HB2.out.far hn (by omega)); replace HB4 := hid (HB4.out.far hn (by omega)); replace HB5 := hid (HB5.out.far hn (by omega)); replace HB6 := hid (HB6.out.far hn (by omega)); replace HD0 := hid (HD0.out.far hn (by have := HL.out; omega)); replace HD1 := hid (HD1.out.far hn (by have := HL.out; omega)); replace HD2 := hid (HD2.out.far hn (by have := HL.out; omega)); replace HD3 := hid (HD3.out.far hn (by have := HL.out; omega)); replace HD4 := hid (HD4.out.far hn (by have := HL.out; omega)); replace HD5 := hid (HD5.out.far hn (by have := HL.out; omega)); have HWx := hid (HW3.out.trans (hn.below HW3.out.size (fun i hi h9 => by have := HLN.out; omega))); clear HW3; have HW3 := HWx; clear HWx hx hn) | (refine store_box (by rfl) 35 (.tmp 22) (.tmp 155) (by rfl) (N + 4) #[.int .i64 0, .int .i64 0, .int .i64 0, .int .i64 0, .int .i64 0, .int .i64 0, .int .i64 0, .int .i64 0, .int .i64 0, .int .i64 0, .int .i64 0, .slice none 0 0] #[.int .i64 5, .int .i64 5, .int .i64 1, .int .i64 0, .int .i64 4, .int .i64 0, .int .i64 4, .int .i64 1, .int .i64 1, .int .i64 3, .int .i64 3, .slice (some ⟨b4, 0, none⟩) 3 4] (by rfl) (by rfl) HB4.out 12 rfl rfl (by kernel_rfl) (by simp [Value.oneCell']) ?_; intro wx hx hn; replace HB4 := hid hx; replace HB0 := hid (HB0.out.far hn (by omega)); replace HB1 := hid (HB1.out.far hn (by omega)); replace HB2 := hid (HB2.out.far hn (by omega)); replace HB3 := hid (HB3.out.far hn (by omega)); replace HB5 := hid (HB5.out.far hn (by omega)); replace HB6 := hid (HB6.out.far hn (by omega)); replace HD0 := hid (HD0.out.far hn (by have := HL.out; omega)); replace HD1 := hid (HD1.out.far hn (by have := HL.out; omega)); replace HD2 := hid (HD2.out.far hn (by have := HL.out; omega)); replace HD3 := hid (HD3.out.far hn (by have := HL.out; omega)); replace HD4 := hid (HD4.out.far hn (by have := HL.out; omega)); replace HD5 := hid (HD5.out.far hn (by have := HL.out; omega)); have HWx := hid (HW3.out.trans (hn.below HW3.out.size (fun i hi h9 => by have := HLN.out; omega))); clear HW3; have HW3 := HWx; clear HWx hx hn) | (refine store_box (by rfl) 35 (.tmp 23) (.tmp 156) (by rfl) (N + 5) #[.int .i64 0, .int .i64 0, .int .i64 0, .int .i64 0, .int .i64 0, .int .i64 0, .int .i64 0, .int .i64 0, .int .i64 0, .int .i64 0, .int .i64 0, .slice none 0 0] #[.int .i64 5, .int .i64 5, .int .i64 1, .int .i64 0, .int .i64 4, .int .i64 0, .int .i64 4, .int .i64 1, .int .i64 1, .int .i64 3, .int .i64 3, .slice (some ⟨b5, 0, none⟩) 3 4] (by rfl) (by rfl) HB5.out 12 rfl rfl (by kernel_rfl) (by simp [Value.oneCell']) ?_; intro wx hx hn; replace HB5 := hid hx; replace HB0 := hid (HB0.out.far hn (by omega)); replace HB1 := hid (HB1.out.far hn (by omega)); replace HB2 := hid (HB2.out.far hn (by omega)); replace HB3 := hid (HB3.out.far hn (by omega)); replace HB4 := hid (HB4.out.far hn (by omega)); replace HB6 := hid (HB6.out.far hn (by omega)); replace HD0 := hid (HD0.out.far hn (by have := HL.out; omega)); replace HD1 := hid (HD1.out.far hn (by have := HL.out; omega)); replace HD2 := hid (HD2.out.far hn (by have := HL.out; omega)); replace HD3 := hid (HD3.out.far hn (by have := HL.out; omega)); replace HD4 := hid (HD4.out.far hn (by have := HL.out; omega)); replace HD5 := hid (HD5.out.far hn (by have := HL.out; omega)); have HWx := hid (HW3.out.trans (hn.below HW3.out.size (fun i hi h9 => by have := HLN.out; omega))); clear HW3; have HW3 := HWx; clear HWx hx hn) | (refine store_box (by rfl) 35 (.tmp 24) (.tmp 157) (by rfl) (N + 6) #[.int .i64 0, .int .i64 0, .int .i64 0, .int .i64 0, .int .i64 0, .int .i64 0, .int .i64 0, .int .i64 0, .int .i64 0, .int .i64 0, .int .i64 0, .slice none 0 0] #[.int .i64 5, .int .i64 5, .int .i64 1, .int .i64 0, .int .i64 4, .int .i64 0, .int .i64 4, .int .i64 1, .int .i64 1, .int .i64 3, .int .i64 3, .slice (some ⟨b6, 0, none⟩) 3 4] (by rfl) (by rfl) HB6.out 12 rfl rfl (by kernel_rfl) (by simp [Value.oneCell']) ?_; intro wx hx hn; replace HB6 := hid hx; replace HB0 := hid (HB0.out.far hn (by omega)); replace HB1 := hid (HB1.out.far hn (by omega)); replace HB2 := hid (HB2.out.far hn (by omega)); replace HB3 := hid (HB3.out.far hn (by omega)); replace HB4 := hid (HB4.out.far hn (by omega)); replace HB5 := hid (HB5.out.far hn (by omega)); replace HD0 := hid (HD0.out.far hn (by have := HL.out; omega)); replace HD1 := hid (HD1.out.far hn (by have := HL.out; omega)); replace HD2 := hid (HD2.out.far hn (by have := HL.out; omega)); replace HD3 := hid (HD3.out.far hn (by have := HL.out; omega)); replace HD4 := hid (HD4.out.far hn (by have := HL.out; omega)); replace HD5 := hid (HD5.out.far hn (by have := HL.out; omega)); have HWx := hid (HW3.out.trans (hn.below HW3.out.size (fun i hi h9 => by have := HLN.out; omega))); clear HW3; have HW3 := HWx; clear HWx hx hn))
  clear hW3
  have k0 := (HB0.out.2 0 (.int .i64 5) rfl).1; have f0 := (HB0.out.2 0 (.int .i64 5) rfl).2
  go_upto_region 18 with fail
  clear k0 f0
  obtain ⟨V17, hV17⟩ : ∃ V, (wx.setCell ⟨N, 0, none⟩ (.int .i64 13)) = V := ⟨_, rfl⟩
  have hn : Near (fun i => i = N) wx V17 := by rw [← hV17]; exact ((Near.refl (fun i => i = N) _).setCell (p := ⟨N, 0, none⟩) (fun _ => rfl) _)
  replace HB0 : Hid (BoxIs N #[.int .i64 13, .int .i64 5, .int .i64 1, .int .i64 0, .int .i64 4, .int .i64 0, .int .i64 4, .int .i64 1, .int .i64 1, .int .i64 3, .int .i64 3, .slice (some ⟨b0, 0, none⟩) 3 4] V17) := by show BoxIs _ _ _; rw [← hV17]; exact (HB0.out.put (j := 0) (.int .i64 13))
  rw [hV17]
  clear hV17
  replace HB1 := hid (HB1.out.far hn (by have := HL.out; have := HLN.out; omega))
  replace HB2 := hid (HB2.out.far hn (by have := HL.out; have := HLN.out; omega))
  replace HB3 := hid (HB3.out.far hn (by have := HL.out; have := HLN.out; omega))
  replace HB4 := hid (HB4.out.far hn (by have := HL.out; have := HLN.out; omega))
  replace HB5 := hid (HB5.out.far hn (by have := HL.out; have := HLN.out; omega))
  replace HB6 := hid (HB6.out.far hn (by have := HL.out; have := HLN.out; omega))
  replace HD0 := hid (HD0.out.far hn (by have := HL.out; have := HLN.out; omega))
  replace HD1 := hid (HD1.out.far hn (by have := HL.out; have := HLN.out; omega))
  replace HD2 := hid (HD2.out.far hn (by have := HL.out; have := HLN.out; omega))
  replace HD3 := hid (HD3.out.far hn (by have := HL.out; have := HLN.out; omega))
  replace HD4 := hid (HD4.out.far hn (by have := HL.out; have := HLN.out; omega))
  replace HD5 := hid (HD5.out.far hn (by have := HL.out; have := HLN.out; omega))
  replace HW3 := hid (HW3.out.trans (hn.below HW3.out.size (fun i hi h9 => by have := HLN.out; omega)))
  clear hn
  have k1 := (HB1.out.2 1 (.int .i64 5) rfl).1; have f1 := (HB1.out.2 1 (.int .i64 5) rfl).2
  go_upto_region 19 with fail
  clear k1 f1
  obtain ⟨V18, hV18⟩ : ∃ V, (V17.setCell ⟨(N + 1), 1, none⟩ (.int .i64 4)) = V := ⟨_, rfl⟩
  have hn : Near (fun i => i = (N + 1)) V17 V18 := by rw [← hV18]; exact ((Near.refl (fun i => i = (N + 1)) _).setCell (p := ⟨(N + 1), 1, none⟩) (fun _ => rfl) _)
  replace HB1 : Hid (BoxIs (N + 1) #[.int .i64 5, .int .i64 4, .int .i64 1, .int .i64 0, .int .i64 4, .int .i64 0, .int .i64 4, .int .i64 1, .int .i64 1, .int .i64 3, .int .i64 3, .slice (some ⟨b1, 0, none⟩) 3 4] V18) := by show BoxIs _ _ _; rw [← hV18]; exact (HB1.out.put (j := 1) (.int .i64 4))
  rw [hV18]
  clear hV18
  replace HB0 := hid (HB0.out.far hn (by have := HL.out; have := HLN.out; omega))
  replace HB2 := hid (HB2.out.far hn (by have := HL.out; have := HLN.out; omega))
  replace HB3 := hid (HB3.out.far hn (by have := HL.out; have := HLN.out; omega))
  replace HB4 := hid (HB4.out.far hn (by have := HL.out; have := HLN.out; omega))
  replace HB5 := hid (HB5.out.far hn (by have := HL.out; have := HLN.out; omega))
  replace HB6 := hid (HB6.out.far hn (by have := HL.out; have := HLN.out; omega))
  replace HD0 := hid (HD0.out.far hn (by have := HL.out; have := HLN.out; omega))
  replace HD1 := hid (HD1.out.far hn (by have := HL.out; have := HLN.out; omega))
  replace HD2 := hid (HD2.out.far hn (by have := HL.out; have := HLN.out; omega))
  replace HD3 := hid (HD3.out.far hn (by have := HL.out; have := HLN.out; omega))
  replace HD4 := hid (HD4.out.far hn (by have := HL.out; have := HLN.out; omega))
  replace HD5 := hid (HD5.out.far hn (by have := HL.out; have := HLN.out; omega))
  replace HW3 := hid (HW3.out.trans (hn.below HW3.out.size (fun i hi h9 => by have := HLN.out; omega)))
  clear hn
  have k0 := (HB2.out.2 0 (.int .i64 5) rfl).1; have f0 := (HB2.out.2 0 (.int .i64 5) rfl).2
  go_upto_region 20 with fail
  clear k0 f0
  obtain ⟨V19, hV19⟩ : ∃ V, (V18.setCell ⟨(N + 2), 0, none⟩ (.int .i64 1)) = V := ⟨_, rfl⟩
  have hn : Near (fun i => i = (N + 2)) V18 V19 := by rw [← hV19]; exact ((Near.refl (fun i => i = (N + 2)) _).setCell (p := ⟨(N + 2), 0, none⟩) (fun _ => rfl) _)
  replace HB2 : Hid (BoxIs (N + 2) #[.int .i64 1, .int .i64 5, .int .i64 1, .int .i64 0, .int .i64 4, .int .i64 0, .int .i64 4, .int .i64 1, .int .i64 1, .int .i64 3, .int .i64 3, .slice (some ⟨b2, 0, none⟩) 3 4] V19) := by show BoxIs _ _ _; rw [← hV19]; exact (HB2.out.put (j := 0) (.int .i64 1))
  rw [hV19]
  clear hV19
  replace HB0 := hid (HB0.out.far hn (by have := HL.out; have := HLN.out; omega))
  replace HB1 := hid (HB1.out.far hn (by have := HL.out; have := HLN.out; omega))
  replace HB3 := hid (HB3.out.far hn (by have := HL.out; have := HLN.out; omega))
  replace HB4 := hid (HB4.out.far hn (by have := HL.out; have := HLN.out; omega))
  replace HB5 := hid (HB5.out.far hn (by have := HL.out; have := HLN.out; omega))
  replace HB6 := hid (HB6.out.far hn (by have := HL.out; have := HLN.out; omega))
  replace HD0 := hid (HD0.out.far hn (by have := HL.out; have := HLN.out; omega))
  replace HD1 := hid (HD1.out.far hn (by have := HL.out; have := HLN.out; omega))
  replace HD2 := hid (HD2.out.far hn (by have := HL.out; have := HLN.out; omega))
  replace HD3 := hid (HD3.out.far hn (by have := HL.out; have := HLN.out; omega))
  replace HD4 := hid (HD4.out.far hn (by have := HL.out; have := HLN.out; omega))
  replace HD5 := hid (HD5.out.far hn (by have := HL.out; have := HLN.out; omega))
  replace HW3 := hid (HW3.out.trans (hn.below HW3.out.size (fun i hi h9 => by have := HLN.out; omega)))
  clear hn
  refine wp_region_held_drew (S := fun V => BoxIs (N + 3) #[.int .i64 5, .int .i64 5, .int .i64 1, .int .i64 0, .int .i64 4, .int .i64 0, .int .i64 4, .int .i64 1, .int .i64 1, .int .i64 3, .int .i64 3, .slice (some ⟨b3, 0, none⟩) 3 4] V) (by kernel_rfl) (HB3.out.below (Below.refl _ _).drew) (fun hS => ?_)
  simp only [List.size_toArray, List.length_cons, List.length_nil, Nat.reduceAdd, Array.replicate_succ, Array.replicate_zero, List.push_toArray, List.nil_append, List.cons_append]
  refine wpAnyH_take (i := 0) (v := ?_) rfl (by kernel_rfl) (by kernel_rfl) (by kernel_rfl) (fun _ _ _ h => h) (Or.inl ⟨by rfl, fun V hV => ?_⟩) (by assumption) ?_
  rotate_left
  · go_simp
    try with_reducible rfl
  try simp only [Act.put, List.getElem_toArray, List.getElem_cons_zero, List.setIfInBounds_toArray, List.set_cons_zero, List.set_cons_succ]
  refine wpAnyH_take (i := 1) (v := ?_) rfl (by kernel_rfl) (by kernel_rfl) (by kernel_rfl) (fun _ _ _ h => h) (Or.inl ⟨by rfl, fun V hV => ?_⟩) (by assumption) ?_
  rotate_left
  · have e11 := (hV.2 11 (.slice (some ⟨b3, 0, none⟩) 3 4) rfl).1; go_simp
    try with_reducible rfl
  try simp only [Act.put, List.getElem_toArray, List.getElem_cons_zero, List.getElem_cons_succ, List.setIfInBounds_toArray, List.set_cons_zero, List.set_cons_succ]
  refine wpAnyH_ready (rs := [2]) (by kernel_rfl) (by simp) ?_
  refine AllReadyH.cons (o := _) rfl (fun K hK => ?_) AllReadyH.nil
  go_simp
  (with_reducible refine (between_any 0 5 _).mono ?_)
  rintro e V20a ⟨rfl, hb⟩
  have hb9 := (Below.refl V19.heap.size V19).drew.trans hb
  replace HB0 := hid (HB0.out.below hb9)
  replace HB1 := hid (HB1.out.below hb9)
  replace HB2 := hid (HB2.out.below hb9)
  replace HB3 := hid (HB3.out.below hb9)
  replace HB4 := hid (HB4.out.below hb9)
  replace HB5 := hid (HB5.out.below hb9)
  replace HB6 := hid (HB6.out.below hb9)
  replace HD0 := hid (HD0.out.below hb9)
  replace HD1 := hid (HD1.out.below hb9)
  replace HD2 := hid (HD2.out.below hb9)
  replace HD3 := hid (HD3.out.below hb9)
  replace HD4 := hid (HD4.out.below hb9)
  replace HD5 := hid (HD5.out.below hb9)
  replace HW3 := hid (HW3.out.trans (hb9.mono HW3.out.size))
  clear hb9
  refine hK.out _ _ (hS.below hb) (fun hS => ?_)
  clear hK K
  try simp only [List.setIfInBounds_toArray, List.set_cons_zero, List.set_cons_succ]
  refine wpAnyH_take (i := 3) (v := ?_) rfl (by kernel_rfl) (by kernel_rfl) (by kernel_rfl) (fun _ _ _ h => h) (Or.inl ⟨by rfl, fun V hV => ?_⟩) (by assumption) ?_
  rotate_left
  · go_simp
    try with_reducible rfl
  try simp only [Act.put, List.getElem_toArray, List.getElem_cons_zero, List.getElem_cons_succ, List.setIfInBounds_toArray, List.set_cons_zero, List.set_cons_succ]
  refine wpAnyH_take (i := 4) (v := ?_) rfl (by kernel_rfl) (by kernel_rfl) (by kernel_rfl) (fun _ _ _ h => h) (Or.inl ⟨by rfl, fun V hV => ?_⟩) (by assumption) ?_
  rotate_left
  · go_simp
    try with_reducible rfl
  try simp only [Act.put, List.getElem_toArray, List.getElem_cons_zero, List.getElem_cons_succ, List.setIfInBounds_toArray, List.set_cons_zero, List.set_cons_succ]
  refine wpAnyH_ready (rs := [5]) (by kernel_rfl) (by simp) ?_
  refine AllReadyH.cons (o := _) rfl (fun K hK => ?_) AllReadyH.nil
  have k0 := (HD3.out.2 0 (.int .i64 0) rfl).1; have f0 := (HD3.out.2 0 (.int .i64 0) rfl).2
  have k1 := (HD3.out.2 1 (.int .i64 0) rfl).1; have f1 := (HD3.out.2 1 (.int .i64 0) rfl).2
  clear hS
  go_simp
  clear k0 f0 k1 f1
  obtain ⟨V20, hV20⟩ : ∃ V, ((V20a.setCell ⟨b3, 0, none⟩ (.int .i64 0)).setCell ⟨b3, 1, none⟩ (.int .i64 5)) = V := ⟨_, rfl⟩
  have hn : Near (fun i => i = b3) V20a V20 := by rw [← hV20]; exact (((Near.refl (fun i => i = b3) _).setCell (p := ⟨b3, 0, none⟩) (fun _ => rfl) _).setCell (p := ⟨b3, 1, none⟩) (fun _ => rfl) _)
  replace HD3 : Hid (BoxIs b3 #[.int .i64 0, .int .i64 5, .int .i64 1, .int .i64 1, .bool true, .int .i64 3, .int .i64 3, .int .i64 4, .int .i64 4, .int .i64 3, .int .i64 3, .bool true, .int .i64 2, .int .i64 3, .int .i64 2, .int .i64 2, .int .i64 3, .int .i64 3, .bool false, .int .i64 0, .int .i64 0, .int .i64 2, .int .i64 2, .int .i64 2, .int .i64 2, .bool false, .int .i64 0, .int .i64 0] V20) := by show BoxIs _ _ _; rw [← hV20]; exact ((HD3.out.put (j := 0) (.int .i64 0)).put (j := 1) (.int .i64 5))
  rw [hV20]
  clear hV20
  replace HB0 := hid (HB0.out.far hn (by have := HL.out; have := HLN.out; omega))
  replace HB1 := hid (HB1.out.far hn (by have := HL.out; have := HLN.out; omega))
  replace HB2 := hid (HB2.out.far hn (by have := HL.out; have := HLN.out; omega))
  replace HB3 := hid (HB3.out.far hn (by have := HL.out; have := HLN.out; omega))
  replace HB4 := hid (HB4.out.far hn (by have := HL.out; have := HLN.out; omega))
  replace HB5 := hid (HB5.out.far hn (by have := HL.out; have := HLN.out; omega))
  replace HB6 := hid (HB6.out.far hn (by have := HL.out; have := HLN.out; omega))
  replace HD0 := hid (HD0.out.far hn (by have := HL.out; have := HLN.out; omega))
  replace HD1 := hid (HD1.out.far hn (by have := HL.out; have := HLN.out; omega))
  replace HD2 := hid (HD2.out.far hn (by have := HL.out; have := HLN.out; omega))
  replace HD4 := hid (HD4.out.far hn (by have := HL.out; have := HLN.out; omega))
  replace HD5 := hid (HD5.out.far hn (by have := HL.out; have := HLN.out; omega))
  replace HW3 := hid (HW3.out.trans (hn.below HW3.out.size (fun i hi h9 => by have := HLO3.out; omega)))
  clear hn
  refine hK.out _ _ (HB3.out) (fun hS => ?_)
  clear hK K
  try simp only [List.setIfInBounds_toArray, List.set_cons_zero, List.set_cons_succ]
  refine wpAnyH_done (by kernel_rfl) ?_ _
  clear hS
  go_upto_region 21 with fail
  refine wp_region_held_drew (S := fun V => BoxIs (N + 4) #[.int .i64 5, .int .i64 5, .int .i64 1, .int .i64 0, .int .i64 4, .int .i64 0, .int .i64 4, .int .i64 1, .int .i64 1, .int .i64 3, .int .i64 3, .slice (some ⟨b4, 0, none⟩) 3 4] V) (by kernel_rfl) (HB4.out.below (Below.refl _ _).drew) (fun hS => ?_)
  simp only [List.size_toArray, List.length_cons, List.length_nil, Nat.reduceAdd, Array.replicate_succ, Array.replicate_zero, List.push_toArray, List.nil_append, List.cons_append]
  refine wpAnyH_take (i := 0) (v := ?_) rfl (by kernel_rfl) (by kernel_rfl) (by kernel_rfl) (fun _ _ _ h => h) (Or.inl ⟨by rfl, fun V hV => ?_⟩) (by assumption) ?_
  rotate_left
  · go_simp
    try with_reducible rfl
  try simp only [Act.put, List.getElem_toArray, List.getElem_cons_zero, List.setIfInBounds_toArray, List.set_cons_zero, List.set_cons_succ]
  refine wpAnyH_take (i := 1) (v := ?_) rfl (by kernel_rfl) (by kernel_rfl) (by kernel_rfl) (fun _ _ _ h => h) (Or.inl ⟨by rfl, fun V hV => ?_⟩) (by assumption) ?_
  rotate_left
  · have e11 := (hV.2 11 (.slice (some ⟨b4, 0, none⟩) 3 4) rfl).1; go_simp
    try with_reducible rfl
  try simp only [Act.put, List.getElem_toArray, List.getElem_cons_zero, List.getElem_cons_succ, List.setIfInBounds_toArray, List.set_cons_zero, List.set_cons_succ]
  refine wpAnyH_ready (rs := [2]) (by kernel_rfl) (by simp) ?_
  refine AllReadyH.cons (o := _) rfl (fun K hK => ?_) AllReadyH.nil
  go_simp
  (with_reducible refine (between_any 0 1 _).mono ?_)
  rintro e V21a ⟨rfl, hb⟩
  have hb9 := (Below.refl V20.heap.size V20).drew.trans hb
  replace HB0 := hid (HB0.out.below hb9)
  replace HB1 := hid (HB1.out.below hb9)
  replace HB2 := hid (HB2.out.below hb9)
  replace HB3 := hid (HB3.out.below hb9)
  replace HB4 := hid (HB4.out.below hb9)
  replace HB5 := hid (HB5.out.below hb9)
  replace HB6 := hid (HB6.out.below hb9)
  replace HD0 := hid (HD0.out.below hb9)
  replace HD1 := hid (HD1.out.below hb9)
  replace HD2 := hid (HD2.out.below hb9)
  replace HD3 := hid (HD3.out.below hb9)
  replace HD4 := hid (HD4.out.below hb9)
  replace HD5 := hid (HD5.out.below hb9)
  replace HW3 := hid (HW3.out.trans (hb9.mono HW3.out.size))
  clear hb9
  refine hK.out _ _ (hS.below hb) (fun hS => ?_)
  clear hK K
  try simp only [List.setIfInBounds_toArray, List.set_cons_zero, List.set_cons_succ]
  refine wpAnyH_take (i := 3) (v := ?_) rfl (by kernel_rfl) (by kernel_rfl) (by kernel_rfl) (fun _ _ _ h => h) (Or.inl ⟨by rfl, fun V hV => ?_⟩) (by assumption) ?_
  rotate_left
  · go_simp
    try with_reducible rfl
  try simp only [Act.put, List.getElem_toArray, List.getElem_cons_zero, List.getElem_cons_succ, List.setIfInBounds_toArray, List.set_cons_zero, List.set_cons_succ]
  refine wpAnyH_take (i := 4) (v := ?_) rfl (by kernel_rfl) (by kernel_rfl) (by kernel_rfl) (fun _ _ _ h => h) (Or.inl ⟨by rfl, fun V hV => ?_⟩) (by assumption) ?_
  rotate_left
  · go_simp
    try with_reducible rfl
  try simp only [Act.put, List.getElem_toArray, List.getElem_cons_zero, List.getElem_cons_succ, List.setIfInBounds_toArray, List.set_cons_zero, List.set_cons_succ]
  refine wpAnyH_ready (rs := [5]) (by kernel_rfl) (by simp) ?_
  refine AllReadyH.cons (o := _) rfl (fun K hK => ?_) AllReadyH.nil
  have k19 := (HD4.out.2 19 (.int .i64 0) rfl).1; have f19 := (HD4.out.2 19 (.int .i64 0) rfl).2
  have k20 := (HD4.out.2 20 (.int .i64 0) rfl).1; have f20 := (HD4.out.2 20 (.int .i64 0) rfl).2
  clear hS
  go_simp
  clear k19 f19 k20 f20
  obtain ⟨V21, hV21⟩ : ∃ V, ((V21a.setCell ⟨b4, 19, none⟩ (.int .i64 0)).setCell ⟨b4, 20, none⟩ (.int .i64 1)) = V := ⟨_, rfl⟩
  have hn : Near (fun i => i = b4) V21a V21 := by rw [← hV21]; exact (((Near.refl (fun i => i = b4) _).setCell (p := ⟨b4, 19, none⟩) (fun _ => rfl) _).setCell (p := ⟨b4, 20, none⟩) (fun _ => rfl) _)
  replace HD4 : Hid (BoxIs b4 #[.int .i64 0, .int .i64 0, .int .i64 1, .int .i64 1, .bool true, .int .i64 3, .int .i64 3, .int .i64 4, .int .i64 4, .int .i64 3, .int .i64 3, .bool true, .int .i64 2, .int .i64 3, .int .i64 2, .int .i64 2, .int .i64 3, .int .i64 3, .bool false, .int .i64 0, .int .i64 1, .int .i64 2, .int .i64 2, .int .i64 2, .int .i64 2, .bool false, .int .i64 0, .int .i64 0] V21) := by show BoxIs _ _ _; rw [← hV21]; exact ((HD4.out.put (j := 19) (.int .i64 0)).put (j := 20) (.int .i64 1))
  rw [hV21]
  clear hV21
  replace HB0 := hid (HB0.out.far hn (by have := HL.out; have := HLN.out; omega))
  replace HB1 := hid (HB1.out.far hn (by have := HL.out; have := HLN.out; omega))
  replace HB2 := hid (HB2.out.far hn (by have := HL.out; have := HLN.out; omega))
  replace HB3 := hid (HB3.out.far hn (by have := HL.out; have := HLN.out; omega))
  replace HB4 := hid (HB4.out.far hn (by have := HL.out; have := HLN.out; omega))
  replace HB5 := hid (HB5.out.far hn (by have := HL.out; have := HLN.out; omega))
  replace HB6 := hid (HB6.out.far hn (by have := HL.out; have := HLN.out; omega))
  replace HD0 := hid (HD0.out.far hn (by have := HL.out; have := HLN.out; omega))
  replace HD1 := hid (HD1.out.far hn (by have := HL.out; have := HLN.out; omega))
  replace HD2 := hid (HD2.out.far hn (by have := HL.out; have := HLN.out; omega))
  replace HD3 := hid (HD3.out.far hn (by have := HL.out; have := HLN.out; omega))
  replace HD5 := hid (HD5.out.far hn (by have := HL.out; have := HLN.out; omega))
  replace HW3 := hid (HW3.out.trans (hn.below HW3.out.size (fun i hi h9 => by have := HLO4.out; omega)))
  clear hn
  refine hK.out _ _ (HB4.out) (fun hS => ?_)
  clear hK K
  try simp only [List.setIfInBounds_toArray, List.set_cons_zero, List.set_cons_succ]
  refine wpAnyH_done (by kernel_rfl) ?_ _
  clear hS
  go_wp2_with fail
  refine (between_any 0 3 _).mono ?_
  rintro e V22a ⟨rfl, hb⟩
  replace HB0 := hid (HB0.out.below hb)
  replace HB1 := hid (HB1.out.below hb)
  replace HB2 := hid (HB2.out.below hb)
  replace HB3 := hid (HB3.out.below hb)
  replace HB4 := hid (HB4.out.below hb)
  replace HB5 := hid (HB5.out.below hb)
  replace HB6 := hid (HB6.out.below hb)
  replace HD0 := hid (HD0.out.below hb)
  replace HD1 := hid (HD1.out.below hb)
  replace HD2 := hid (HD2.out.below hb)
  replace HD3 := hid (HD3.out.below hb)
  replace HD4 := hid (HD4.out.below hb)
  replace HD5 := hid (HD5.out.below hb)
  replace HW3 := hid (HW3.out.trans (hb.mono HW3.out.size))
  clear hb
  have k9 := (HB5.out.2 9 (.int .i64 3) rfl).1; have f9 := (HB5.out.2 9 (.int .i64 3) rfl).2
  have k10 := (HB5.out.2 10 (.int .i64 3) rfl).1; have f10 := (HB5.out.2 10 (.int .i64 3) rfl).2
  go_upto_region 23 with fail
  clear k9 f9 k10 f10
  obtain ⟨V22, hV22⟩ : ∃ V, ((V22a.setCell ⟨(N + 5), 9, none⟩ (.int .i64 0)).setCell ⟨(N + 5), 10, none⟩ (.int .i64 3)) = V := ⟨_, rfl⟩
  have hn : Near (fun i => i = (N + 5)) V22a V22 := by rw [← hV22]; exact (((Near.refl (fun i => i = (N + 5)) _).setCell (p := ⟨(N + 5), 9, none⟩) (fun _ => rfl) _).setCell (p := ⟨(N + 5), 10, none⟩) (fun _ => rfl) _)
  replace HB5 : Hid (BoxIs (N + 5) #[.int .i64 5, .int .i64 5, .int .i64 1, .int .i64 0, .int .i64 4, .int .i64 0, .int .i64 4, .int .i64 1, .int .i64 1, .int .i64 0, .int .i64 3, .slice (some ⟨b5, 0, none⟩) 3 4] V22) := by show BoxIs _ _ _; rw [← hV22]; exact ((HB5.out.put (j := 9) (.int .i64 0)).put (j := 10) (.int .i64 3))
  rw [hV22]
  clear hV22
  replace HB0 := hid (HB0.out.far hn (by have := HL.out; have := HLN.out; omega))
  replace HB1 := hid (HB1.out.far hn (by have := HL.out; have := HLN.out; omega))
  replace HB2 := hid (HB2.out.far hn (by have := HL.out; have := HLN.out; omega))
  replace HB3 := hid (HB3.out.far hn (by have := HL.out; have := HLN.out; omega))
  replace HB4 := hid (HB4.out.far hn (by have := HL.out; have := HLN.out; omega))
  replace HB6 := hid (HB6.out.far hn (by have := HL.out; have := HLN.out; omega))
  replace HD0 := hid (HD0.out.far hn (by have := HL.out; have := HLN.out; omega))
  replace HD1 := hid (HD1.out.far hn (by have := HL.out; have := HLN.out; omega))
  replace HD2 := hid (HD2.out.far hn (by have := HL.out; have := HLN.out; omega))
  replace HD3 := hid (HD3.out.far hn (by have := HL.out; have := HLN.out; omega))
  replace HD4 := hid (HD4.out.far hn (by have := HL.out; have := HLN.out; omega))
  replace HD5 := hid (HD5.out.far hn (by have := HL.out; have := HLN.out; omega))
  replace HW3 := hid (HW3.out.trans (hn.below HW3.out.size (fun i hi h9 => by have := HLN.out; omega)))
  clear hn
  obtain ⟨V23, hV23⟩ : ∃ V, V22.alloc (.cells ((List.replicate 7 (⟨⟨0, 0⟩, ⟨0, 0⟩, false, ⟨0, 0⟩⟩ : Crd)).flatMap cellsK).toArray 119) = V := ⟨_, rfl⟩
  obtain ⟨M, hM⟩ : ∃ M, V22.heap.size = M := ⟨_, rfl⟩
  have hmk : (Instr.makeSlice 33 (.int .i64 7) (.int .i64 7)).run Try.prog V22 = .ok (.slice (some ⟨M, 0, none⟩) 7 7) V23 := by rw [← hV23, ← hM]; exact make7 _
  have hb : Below V22.heap.size V22 V23 := by rw [← hV23]; exact (Below.refl _ _).alloc (Nat.le_refl _) _
  have HM : Hid (BoxIs M ((List.replicate 7 (⟨⟨0, 0⟩, ⟨0, 0⟩, false, ⟨0, 0⟩⟩ : Crd)).flatMap cellsK).toArray V23) := by show BoxIs _ _ _; rw [← hV23, ← hM]; exact BoxIs.start _ _ _
  have HLM : Hid (N + 6 < M) := hid (by rw [← hM]; exact HB6.out.1)
  clear hM hV23
  replace HB0 := hid (HB0.out.below hb)
  replace HB1 := hid (HB1.out.below hb)
  replace HB2 := hid (HB2.out.below hb)
  replace HB3 := hid (HB3.out.below hb)
  replace HB4 := hid (HB4.out.below hb)
  replace HB5 := hid (HB5.out.below hb)
  replace HB6 := hid (HB6.out.below hb)
  replace HD0 := hid (HD0.out.below hb)
  replace HD1 := hid (HD1.out.below hb)
  replace HD2 := hid (HD2.out.below hb)
  replace HD3 := hid (HD3.out.below hb)
  replace HD4 := hid (HD4.out.below hb)
  replace HD5 := hid (HD5.out.below hb)
  replace HW3 := hid (HW3.out.trans (hb.mono HW3.out.size))
  clear hb
  have k11 := (HB6.out.2 11 (.slice (some ⟨b6, 0, none⟩) 3 4) rfl).1; have f11 := (HB6.out.2 11 (.slice (some ⟨b6, 0, none⟩) 3 4) rfl).2
  go_upto_region 24 with fail
  clear k11 f11 hmk
  obtain ⟨V24, hV24⟩ : ∃ V, (V23.setCell ⟨(N + 6), 11, none⟩ (.slice (some ⟨M, 0, none⟩) 7 7)) = V := ⟨_, rfl⟩
  have hn : Near (fun i => i = (N + 6)) V23 V24 := by rw [← hV24]; exact ((Near.refl (fun i => i = (N + 6)) _).setCell (p := ⟨(N + 6), 11, none⟩) (fun _ => rfl) _)
  replace HB6 : Hid (BoxIs (N + 6) #[.int .i64 5, .int .i64 5, .int .i64 1, .int .i64 0, .int .i64 4, .int .i64 0, .int .i64 4, .int .i64 1, .int .i64 1, .int .i64 3, .int .i64 3, .slice (some ⟨M, 0, none⟩) 7 7] V24) := by show BoxIs _ _ _; rw [← hV24]; exact (HB6.out.put (j := 11) (.slice (some ⟨M, 0, none⟩) 7 7))
  rw [hV24]
  clear hV24
  replace HB0 := hid (HB0.out.far hn (by have := HL.out; have := HLN.out; have := HLM.out; omega))
  replace HB1 := hid (HB1.out.far hn (by have := HL.out; have := HLN.out; have := HLM.out; omega))
  replace HB2 := hid (HB2.out.far hn (by have := HL.out; have := HLN.out; have := HLM.out; omega))
  replace HB3 := hid (HB3.out.far hn (by have := HL.out; have := HLN.out; have := HLM.out; omega))
  replace HB4 := hid (HB4.out.far hn (by have := HL.out; have := HLN.out; have := HLM.out; omega))
  replace HB5 := hid (HB5.out.far hn (by have := HL.out; have := HLN.out; have := HLM.out; omega))
  replace HD0 := hid (HD0.out.far hn (by have := HL.out; have := HLN.out; have := HLM.out; omega))
  replace HD1 := hid (HD1.out.far hn (by have := HL.out; have := HLN.out; have := HLM.out; omega))
  replace HD2 := hid (HD2.out.far hn (by have := HL.out; have := HLN.out; have := HLM.out; omega))
  replace HD3 := hid (HD3.out.far hn (by have := HL.out; have := HLN.out; have := HLM.out; omega))
  replace HD4 := hid (HD4.out.far hn (by have := HL.out; have := HLN.out; have := HLM.out; omega))
  replace HD5 := hid (HD5.out.far hn (by have := HL.out; have := HLN.out; have := HLM.out; omega))
  replace HM := hid (HM.out.far hn (by have := HL.out; have := HLN.out; have := HLM.out; omega))
  replace HW3 := hid (HW3.out.trans (hn.below HW3.out.size (fun i hi h9 => by have := HLN.out; omega)))
  clear hn
  go_wp2_with fail
  refine (between_any 0 11 _).mono ?_
  rintro e U0 ⟨rfl, hb⟩
  replace HB0 := hid (HB0.out.below hb)
  replace HB1 := hid (HB1.out.below hb)
  replace HB2 := hid (HB2.out.below hb)
  replace HB3 := hid (HB3.out.below hb)
  replace HB4 := hid (HB4.out.below hb)
  replace HB5 := hid (HB5.out.below hb)
  replace HB6 := hid (HB6.out.below hb)
  replace HD0 := hid (HD0.out.below hb)
  replace HD1 := hid (HD1.out.below hb)
  replace HD2 := hid (HD2.out.below hb)
  replace HD3 := hid (HD3.out.below hb)
  replace HD4 := hid (HD4.out.below hb)
  replace HD5 := hid (HD5.out.below hb)
  replace HM := hid (HM.out.below hb)
  replace HW3 := hid (HW3.out.trans (hb.mono HW3.out.size))
  clear hb
  go_wp2_with fail
  refine (between_any 0 11 _).mono ?_
  rintro e U1 ⟨rfl, hb⟩
  replace HB0 := hid (HB0.out.below hb)
  replace HB1 := hid (HB1.out.below hb)
  replace HB2 := hid (HB2.out.below hb)
  replace HB3 := hid (HB3.out.below hb)
  replace HB4 := hid (HB4.out.below hb)
  replace HB5 := hid (HB5.out.below hb)
  replace HB6 := hid (HB6.out.below hb)
  replace HD0 := hid (HD0.out.below hb)
  replace HD1 := hid (HD1.out.below hb)
  replace HD2 := hid (HD2.out.below hb)
  replace HD3 := hid (HD3.out.below hb)
  replace HD4 := hid (HD4.out.below hb)
  replace HD5 := hid (HD5.out.below hb)
  replace HM := hid (HM.out.below hb)
  replace HW3 := hid (HW3.out.trans (hb.mono HW3.out.size))
  clear hb
  go_wp2_with fail
  refine (between_any 0 3 _).mono ?_
  rintro e U2 ⟨rfl, hb⟩
  replace HB0 := hid (HB0.out.below hb)
  replace HB1 := hid (HB1.out.below hb)
  replace HB2 := hid (HB2.out.below hb)
  replace HB3 := hid (HB3.out.below hb)
  replace HB4 := hid (HB4.out.below hb)
  replace HB5 := hid (HB5.out.below hb)
  replace HB6 := hid (HB6.out.below hb)
  replace HD0 := hid (HD0.out.below hb)
  replace HD1 := hid (HD1.out.below hb)
  replace HD2 := hid (HD2.out.below hb)
  replace HD3 := hid (HD3.out.below hb)
  replace HD4 := hid (HD4.out.below hb)
  replace HD5 := hid (HD5.out.below hb)
  replace HM := hid (HM.out.below hb)
  replace HW3 := hid (HW3.out.trans (hb.mono HW3.out.size))
  clear hb
  go_wp2_with fail
  refine (between_any 1 4 _).mono ?_
  rintro e U3 ⟨rfl, hb⟩
  replace HB0 := hid (HB0.out.below hb)
  replace HB1 := hid (HB1.out.below hb)
  replace HB2 := hid (HB2.out.below hb)
  replace HB3 := hid (HB3.out.below hb)
  replace HB4 := hid (HB4.out.below hb)
  replace HB5 := hid (HB5.out.below hb)
  replace HB6 := hid (HB6.out.below hb)
  replace HD0 := hid (HD0.out.below hb)
  replace HD1 := hid (HD1.out.below hb)
  replace HD2 := hid (HD2.out.below hb)
  replace HD3 := hid (HD3.out.below hb)
  replace HD4 := hid (HD4.out.below hb)
  replace HD5 := hid (HD5.out.below hb)
  replace HM := hid (HM.out.below hb)
  replace HW3 := hid (HW3.out.trans (hb.mono HW3.out.size))
  clear hb
  go_upto_region 25 with fail
  obtain ⟨V25, hV25⟩ : ∃ V, U3.alloc (.cells #[.int .i64 12, .int .i64 12, .int .i64 0, .int .i64 0, .int .i64 11, .int .i64 0, .int .i64 11, .int .i64 0, .int .i64 3, .int .i64 1, .int .i64 4, .slice none 0 0] 35) = V := ⟨_, rfl⟩
  have hb : Below U3.heap.size U3 V25 := by rw [← hV25]; exact (Below.refl _ _).alloc (Nat.le_refl _) _
  have HH : Hid (BoxIs U3.heap.size #[.int .i64 12, .int .i64 12, .int .i64 0, .int .i64 0, .int .i64 11, .int .i64 0, .int .i64 11, .int .i64 0, .int .i64 3, .int .i64 1, .int .i64 4, .slice none 0 0] V25) := by show BoxIs _ _ _; rw [← hV25]; exact BoxIs.start _ _ _
  rw [hV25]
  replace HB0 := hid (HB0.out.below hb)
  replace HB1 := hid (HB1.out.below hb)
  replace HB2 := hid (HB2.out.below hb)
  replace HB3 := hid (HB3.out.below hb)
  replace HB4 := hid (HB4.out.below hb)
  replace HB5 := hid (HB5.out.below hb)
  replace HB6 := hid (HB6.out.below hb)
  replace HD0 := hid (HD0.out.below hb)
  replace HD1 := hid (HD1.out.below hb)
  replace HD2 := hid (HD2.out.below hb)
  replace HD3 := hid (HD3.out.below hb)
  replace HD4 := hid (HD4.out.below hb)
  replace HD5 := hid (HD5.out.below hb)
  replace HM := hid (HM.out.below hb)
  replace HW3 := hid (HW3.out.trans (hb.mono HW3.out.size))
  clear hb hV25
  have k0 := (HB0.out.2 0 (.int .i64 13) rfl).1
  have k1 := (HB0.out.2 1 (.int .i64 5) rfl).1
  have k2 := (HB0.out.2 2 (.int .i64 1) rfl).1
  have k3 := (HB0.out.2 3 (.int .i64 0) rfl).1
  have k4 := (HB0.out.2 4 (.int .i64 4) rfl).1
  have k5 := (HB0.out.2 5 (.int .i64 0) rfl).1
  have k6 := (HB0.out.2 6 (.int .i64 4) rfl).1
  have k7 := (HB0.out.2 7 (.int .i64 1) rfl).1
  have k8 := (HB0.out.2 8 (.int .i64 1) rfl).1
  have k9 := (HB0.out.2 9 (.int .i64 3) rfl).1
  have k10 := (HB0.out.2 10 (.int .i64 3) rfl).1
  have k11 := (HB0.out.2 11 (.slice (some ⟨b0, 0, none⟩) 3 4) rfl).1
  go_wp2_with fail
  refine (checkStorm_any ⟨13, 5, 1, ⟨0, 4⟩, ⟨0, 4⟩, ⟨1, 1⟩, ⟨3, 3⟩, card4.take 3⟩ (some ⟨b0, 0, none⟩) 3 4 _ (crds_box HD0.out (card4.take 3) [.int .i64 2, .int .i64 2, .int .i64 2, .int .i64 2, .bool false, .int .i64 0, .int .i64 0] rfl)).mono ?_
  rintro e Y0 ⟨rfl, hb⟩
  rw [nm_fault.1]
  replace HB0 := hid (HB0.out.below hb)
  replace HB1 := hid (HB1.out.below hb)
  replace HB2 := hid (HB2.out.below hb)
  replace HB3 := hid (HB3.out.below hb)
  replace HB4 := hid (HB4.out.below hb)
  replace HB5 := hid (HB5.out.below hb)
  replace HB6 := hid (HB6.out.below hb)
  replace HD0 := hid (HD0.out.below hb)
  replace HD1 := hid (HD1.out.below hb)
  replace HD2 := hid (HD2.out.below hb)
  replace HD3 := hid (HD3.out.below hb)
  replace HD4 := hid (HD4.out.below hb)
  replace HD5 := hid (HD5.out.below hb)
  replace HM := hid (HM.out.below hb)
  replace HH := hid (HH.out.below hb)
  replace HW3 := hid (HW3.out.trans (hb.mono HW3.out.size))
  clear hb k0 k1 k2 k3 k4 k5 k6 k7 k8 k9 k10 k11
  have k0 := (HB1.out.2 0 (.int .i64 5) rfl).1
  have k1 := (HB1.out.2 1 (.int .i64 4) rfl).1
  have k2 := (HB1.out.2 2 (.int .i64 1) rfl).1
  have k3 := (HB1.out.2 3 (.int .i64 0) rfl).1
  have k4 := (HB1.out.2 4 (.int .i64 4) rfl).1
  have k5 := (HB1.out.2 5 (.int .i64 0) rfl).1
  have k6 := (HB1.out.2 6 (.int .i64 4) rfl).1
  have k7 := (HB1.out.2 7 (.int .i64 1) rfl).1
  have k8 := (HB1.out.2 8 (.int .i64 1) rfl).1
  have k9 := (HB1.out.2 9 (.int .i64 3) rfl).1
  have k10 := (HB1.out.2 10 (.int .i64 3) rfl).1
  have k11 := (HB1.out.2 11 (.slice (some ⟨b1, 0, none⟩) 3 4) rfl).1
  go_wp2_with fail
  refine (checkStorm_any ⟨5, 4, 1, ⟨0, 4⟩, ⟨0, 4⟩, ⟨1, 1⟩, ⟨3, 3⟩, card4.take 3⟩ (some ⟨b1, 0, none⟩) 3 4 _ (crds_box HD1.out (card4.take 3) [.int .i64 2, .int .i64 2, .int .i64 2, .int .i64 2, .bool false, .int .i64 0, .int .i64 0] rfl)).mono ?_
  rintro e Y1 ⟨rfl, hb⟩
  rw [nm_fault.2.1]
  replace HB0 := hid (HB0.out.below hb)
  replace HB1 := hid (HB1.out.below hb)
  replace HB2 := hid (HB2.out.below hb)
  replace HB3 := hid (HB3.out.below hb)
  replace HB4 := hid (HB4.out.below hb)
  replace HB5 := hid (HB5.out.below hb)
  replace HB6 := hid (HB6.out.below hb)
  replace HD0 := hid (HD0.out.below hb)
  replace HD1 := hid (HD1.out.below hb)
  replace HD2 := hid (HD2.out.below hb)
  replace HD3 := hid (HD3.out.below hb)
  replace HD4 := hid (HD4.out.below hb)
  replace HD5 := hid (HD5.out.below hb)
  replace HM := hid (HM.out.below hb)
  replace HH := hid (HH.out.below hb)
  replace HW3 := hid (HW3.out.trans (hb.mono HW3.out.size))
  clear hb k0 k1 k2 k3 k4 k5 k6 k7 k8 k9 k10 k11
  have k0 := (HB2.out.2 0 (.int .i64 1) rfl).1
  have k1 := (HB2.out.2 1 (.int .i64 5) rfl).1
  have k2 := (HB2.out.2 2 (.int .i64 1) rfl).1
  have k3 := (HB2.out.2 3 (.int .i64 0) rfl).1
  have k4 := (HB2.out.2 4 (.int .i64 4) rfl).1
  have k5 := (HB2.out.2 5 (.int .i64 0) rfl).1
  have k6 := (HB2.out.2 6 (.int .i64 4) rfl).1
  have k7 := (HB2.out.2 7 (.int .i64 1) rfl).1
  have k8 := (HB2.out.2 8 (.int .i64 1) rfl).1
  have k9 := (HB2.out.2 9 (.int .i64 3) rfl).1
  have k10 := (HB2.out.2 10 (.int .i64 3) rfl).1
  have k11 := (HB2.out.2 11 (.slice (some ⟨b2, 0, none⟩) 3 4) rfl).1
  go_wp2_with fail
  refine (checkStorm_any ⟨1, 5, 1, ⟨0, 4⟩, ⟨0, 4⟩, ⟨1, 1⟩, ⟨3, 3⟩, card4.take 3⟩ (some ⟨b2, 0, none⟩) 3 4 _ (crds_box HD2.out (card4.take 3) [.int .i64 2, .int .i64 2, .int .i64 2, .int .i64 2, .bool false, .int .i64 0, .int .i64 0] rfl)).mono ?_
  rintro e Y2 ⟨rfl, hb⟩
  rw [nm_fault.2.2.1]
  replace HB0 := hid (HB0.out.below hb)
  replace HB1 := hid (HB1.out.below hb)
  replace HB2 := hid (HB2.out.below hb)
  replace HB3 := hid (HB3.out.below hb)
  replace HB4 := hid (HB4.out.below hb)
  replace HB5 := hid (HB5.out.below hb)
  replace HB6 := hid (HB6.out.below hb)
  replace HD0 := hid (HD0.out.below hb)
  replace HD1 := hid (HD1.out.below hb)
  replace HD2 := hid (HD2.out.below hb)
  replace HD3 := hid (HD3.out.below hb)
  replace HD4 := hid (HD4.out.below hb)
  replace HD5 := hid (HD5.out.below hb)
  replace HM := hid (HM.out.below hb)
  replace HH := hid (HH.out.below hb)
  replace HW3 := hid (HW3.out.trans (hb.mono HW3.out.size))
  clear hb k0 k1 k2 k3 k4 k5 k6 k7 k8 k9 k10 k11
  have k0 := (HB3.out.2 0 (.int .i64 5) rfl).1
  have k1 := (HB3.out.2 1 (.int .i64 5) rfl).1
  have k2 := (HB3.out.2 2 (.int .i64 1) rfl).1
  have k3 := (HB3.out.2 3 (.int .i64 0) rfl).1
  have k4 := (HB3.out.2 4 (.int .i64 4) rfl).1
  have k5 := (HB3.out.2 5 (.int .i64 0) rfl).1
  have k6 := (HB3.out.2 6 (.int .i64 4) rfl).1
  have k7 := (HB3.out.2 7 (.int .i64 1) rfl).1
  have k8 := (HB3.out.2 8 (.int .i64 1) rfl).1
  have k9 := (HB3.out.2 9 (.int .i64 3) rfl).1
  have k10 := (HB3.out.2 10 (.int .i64 3) rfl).1
  have k11 := (HB3.out.2 11 (.slice (some ⟨b3, 0, none⟩) 3 4) rfl).1
  go_wp2_with fail
  refine (checkStorm_any ⟨5, 5, 1, ⟨0, 4⟩, ⟨0, 4⟩, ⟨1, 1⟩, ⟨3, 3⟩, nmCard⟩ (some ⟨b3, 0, none⟩) 3 4 _ (crds_box HD3.out nmCard [.int .i64 2, .int .i64 2, .int .i64 2, .int .i64 2, .bool false, .int .i64 0, .int .i64 0] rfl)).mono ?_
  rintro e Y3 ⟨rfl, hb⟩
  rw [nm_fault.2.2.2.1]
  replace HB0 := hid (HB0.out.below hb)
  replace HB1 := hid (HB1.out.below hb)
  replace HB2 := hid (HB2.out.below hb)
  replace HB3 := hid (HB3.out.below hb)
  replace HB4 := hid (HB4.out.below hb)
  replace HB5 := hid (HB5.out.below hb)
  replace HB6 := hid (HB6.out.below hb)
  replace HD0 := hid (HD0.out.below hb)
  replace HD1 := hid (HD1.out.below hb)
  replace HD2 := hid (HD2.out.below hb)
  replace HD3 := hid (HD3.out.below hb)
  replace HD4 := hid (HD4.out.below hb)
  replace HD5 := hid (HD5.out.below hb)
  replace HM := hid (HM.out.below hb)
  replace HH := hid (HH.out.below hb)
  replace HW3 := hid (HW3.out.trans (hb.mono HW3.out.size))
  clear hb k0 k1 k2 k3 k4 k5 k6 k7 k8 k9 k10 k11
  have k0 := (HB4.out.2 0 (.int .i64 5) rfl).1
  have k1 := (HB4.out.2 1 (.int .i64 5) rfl).1
  have k2 := (HB4.out.2 2 (.int .i64 1) rfl).1
  have k3 := (HB4.out.2 3 (.int .i64 0) rfl).1
  have k4 := (HB4.out.2 4 (.int .i64 4) rfl).1
  have k5 := (HB4.out.2 5 (.int .i64 0) rfl).1
  have k6 := (HB4.out.2 6 (.int .i64 4) rfl).1
  have k7 := (HB4.out.2 7 (.int .i64 1) rfl).1
  have k8 := (HB4.out.2 8 (.int .i64 1) rfl).1
  have k9 := (HB4.out.2 9 (.int .i64 3) rfl).1
  have k10 := (HB4.out.2 10 (.int .i64 3) rfl).1
  have k11 := (HB4.out.2 11 (.slice (some ⟨b4, 0, none⟩) 3 4) rfl).1
  go_wp2_with fail
  refine (checkStorm_any ⟨5, 5, 1, ⟨0, 4⟩, ⟨0, 4⟩, ⟨1, 1⟩, ⟨3, 3⟩, nmHail⟩ (some ⟨b4, 0, none⟩) 3 4 _ (crds_box HD4.out nmHail [.int .i64 2, .int .i64 2, .int .i64 2, .int .i64 2, .bool false, .int .i64 0, .int .i64 0] rfl)).mono ?_
  rintro e Y4 ⟨rfl, hb⟩
  rw [nm_fault.2.2.2.2.1]
  replace HB0 := hid (HB0.out.below hb)
  replace HB1 := hid (HB1.out.below hb)
  replace HB2 := hid (HB2.out.below hb)
  replace HB3 := hid (HB3.out.below hb)
  replace HB4 := hid (HB4.out.below hb)
  replace HB5 := hid (HB5.out.below hb)
  replace HB6 := hid (HB6.out.below hb)
  replace HD0 := hid (HD0.out.below hb)
  replace HD1 := hid (HD1.out.below hb)
  replace HD2 := hid (HD2.out.below hb)
  replace HD3 := hid (HD3.out.below hb)
  replace HD4 := hid (HD4.out.below hb)
  replace HD5 := hid (HD5.out.below hb)
  replace HM := hid (HM.out.below hb)
  replace HH := hid (HH.out.below hb)
  replace HW3 := hid (HW3.out.trans (hb.mono HW3.out.size))
  clear hb k0 k1 k2 k3 k4 k5 k6 k7 k8 k9 k10 k11
  have k0 := (HB5.out.2 0 (.int .i64 5) rfl).1
  have k1 := (HB5.out.2 1 (.int .i64 5) rfl).1
  have k2 := (HB5.out.2 2 (.int .i64 1) rfl).1
  have k3 := (HB5.out.2 3 (.int .i64 0) rfl).1
  have k4 := (HB5.out.2 4 (.int .i64 4) rfl).1
  have k5 := (HB5.out.2 5 (.int .i64 0) rfl).1
  have k6 := (HB5.out.2 6 (.int .i64 4) rfl).1
  have k7 := (HB5.out.2 7 (.int .i64 1) rfl).1
  have k8 := (HB5.out.2 8 (.int .i64 1) rfl).1
  have k9 := (HB5.out.2 9 (.int .i64 0) rfl).1
  have k10 := (HB5.out.2 10 (.int .i64 3) rfl).1
  have k11 := (HB5.out.2 11 (.slice (some ⟨b5, 0, none⟩) 3 4) rfl).1
  go_wp2_with fail
  refine (checkStorm_any ⟨5, 5, 1, ⟨0, 4⟩, ⟨0, 4⟩, ⟨1, 1⟩, ⟨0, 3⟩, card4.take 3⟩ (some ⟨b5, 0, none⟩) 3 4 _ (crds_box HD5.out (card4.take 3) [.int .i64 2, .int .i64 2, .int .i64 2, .int .i64 2, .bool false, .int .i64 0, .int .i64 0] rfl)).mono ?_
  rintro e Y5 ⟨rfl, hb⟩
  rw [nm_fault.2.2.2.2.2.1]
  replace HB0 := hid (HB0.out.below hb)
  replace HB1 := hid (HB1.out.below hb)
  replace HB2 := hid (HB2.out.below hb)
  replace HB3 := hid (HB3.out.below hb)
  replace HB4 := hid (HB4.out.below hb)
  replace HB5 := hid (HB5.out.below hb)
  replace HB6 := hid (HB6.out.below hb)
  replace HD0 := hid (HD0.out.below hb)
  replace HD1 := hid (HD1.out.below hb)
  replace HD2 := hid (HD2.out.below hb)
  replace HD3 := hid (HD3.out.below hb)
  replace HD4 := hid (HD4.out.below hb)
  replace HD5 := hid (HD5.out.below hb)
  replace HM := hid (HM.out.below hb)
  replace HH := hid (HH.out.below hb)
  replace HW3 := hid (HW3.out.trans (hb.mono HW3.out.size))
  clear hb k0 k1 k2 k3 k4 k5 k6 k7 k8 k9 k10 k11
  have k0 := (HB6.out.2 0 (.int .i64 5) rfl).1
  have k1 := (HB6.out.2 1 (.int .i64 5) rfl).1
  have k2 := (HB6.out.2 2 (.int .i64 1) rfl).1
  have k3 := (HB6.out.2 3 (.int .i64 0) rfl).1
  have k4 := (HB6.out.2 4 (.int .i64 4) rfl).1
  have k5 := (HB6.out.2 5 (.int .i64 0) rfl).1
  have k6 := (HB6.out.2 6 (.int .i64 4) rfl).1
  have k7 := (HB6.out.2 7 (.int .i64 1) rfl).1
  have k8 := (HB6.out.2 8 (.int .i64 1) rfl).1
  have k9 := (HB6.out.2 9 (.int .i64 3) rfl).1
  have k10 := (HB6.out.2 10 (.int .i64 3) rfl).1
  have k11 := (HB6.out.2 11 (.slice (some ⟨M, 0, none⟩) 7 7) rfl).1
  go_wp2_with fail
  refine (checkStorm_any ⟨5, 5, 1, ⟨0, 4⟩, ⟨0, 4⟩, ⟨1, 1⟩, ⟨3, 3⟩, List.replicate 7 ⟨⟨0, 0⟩, ⟨0, 0⟩, false, ⟨0, 0⟩⟩⟩ (some ⟨M, 0, none⟩) 7 7 _ (crds_box HM.out (List.replicate 7 ⟨⟨0, 0⟩, ⟨0, 0⟩, false, ⟨0, 0⟩⟩) [] (by rw [List.append_nil]))).mono ?_
  rintro e Y6 ⟨rfl, hb⟩
  rw [nm_fault.2.2.2.2.2.2.1]
  replace HB0 := hid (HB0.out.below hb)
  replace HB1 := hid (HB1.out.below hb)
  replace HB2 := hid (HB2.out.below hb)
  replace HB3 := hid (HB3.out.below hb)
  replace HB4 := hid (HB4.out.below hb)
  replace HB5 := hid (HB5.out.below hb)
  replace HB6 := hid (HB6.out.below hb)
  replace HD0 := hid (HD0.out.below hb)
  replace HD1 := hid (HD1.out.below hb)
  replace HD2 := hid (HD2.out.below hb)
  replace HD3 := hid (HD3.out.below hb)
  replace HD4 := hid (HD4.out.below hb)
  replace HD5 := hid (HD5.out.below hb)
  replace HM := hid (HM.out.below hb)
  replace HH := hid (HH.out.below hb)
  replace HW3 := hid (HW3.out.trans (hb.mono HW3.out.size))
  clear hb k0 k1 k2 k3 k4 k5 k6 k7 k8 k9 k10 k11
  have k0 := (HH.out.2 0 (.int .i64 12) rfl).1
  have k1 := (HH.out.2 1 (.int .i64 12) rfl).1
  have k2 := (HH.out.2 2 (.int .i64 0) rfl).1
  have k3 := (HH.out.2 3 (.int .i64 0) rfl).1
  have k4 := (HH.out.2 4 (.int .i64 11) rfl).1
  have k5 := (HH.out.2 5 (.int .i64 0) rfl).1
  have k6 := (HH.out.2 6 (.int .i64 11) rfl).1
  have k7 := (HH.out.2 7 (.int .i64 0) rfl).1
  have k8 := (HH.out.2 8 (.int .i64 3) rfl).1
  have k9 := (HH.out.2 9 (.int .i64 1) rfl).1
  have k10 := (HH.out.2 10 (.int .i64 4) rfl).1
  have k11 := (HH.out.2 11 (.slice none 0 0) rfl).1
  go_wp2_with fail
  refine (checkStorm_any ⟨12, 12, 0, ⟨0, 11⟩, ⟨0, 11⟩, ⟨0, 3⟩, ⟨1, 4⟩, []⟩ none 0 0 _ (crds_iff.2 ⟨rfl, fun i c hi => by simp at hi⟩)).mono ?_
  rintro e Y7 ⟨rfl, hb⟩
  rw [nm_fault.2.2.2.2.2.2.2.1]
  replace HB0 := hid (HB0.out.below hb)
  replace HB1 := hid (HB1.out.below hb)
  replace HB2 := hid (HB2.out.below hb)
  replace HB3 := hid (HB3.out.below hb)
  replace HB4 := hid (HB4.out.below hb)
  replace HB5 := hid (HB5.out.below hb)
  replace HB6 := hid (HB6.out.below hb)
  replace HD0 := hid (HD0.out.below hb)
  replace HD1 := hid (HD1.out.below hb)
  replace HD2 := hid (HD2.out.below hb)
  replace HD3 := hid (HD3.out.below hb)
  replace HD4 := hid (HD4.out.below hb)
  replace HD5 := hid (HD5.out.below hb)
  replace HM := hid (HM.out.below hb)
  replace HH := hid (HH.out.below hb)
  replace HW3 := hid (HW3.out.trans (hb.mono HW3.out.size))
  clear hb k0 k1 k2 k3 k4 k5 k6 k7 k8 k9 k10 k11
  go_wp2_with fail
  refine (checkStorm_any ⟨0, 0, 0, ⟨0, 0⟩, ⟨0, 0⟩, ⟨0, 0⟩, ⟨0, 0⟩, []⟩ none 0 0 _ (crds_iff.2 ⟨rfl, fun i c hi => by simp at hi⟩)).mono ?_
  rintro e Y8 ⟨rfl, hb⟩
  rw [nm_fault.2.2.2.2.2.2.2.2]
  replace HB0 := hid (HB0.out.below hb)
  replace HB1 := hid (HB1.out.below hb)
  replace HB2 := hid (HB2.out.below hb)
  replace HB3 := hid (HB3.out.below hb)
  replace HB4 := hid (HB4.out.below hb)
  replace HB5 := hid (HB5.out.below hb)
  replace HB6 := hid (HB6.out.below hb)
  replace HD0 := hid (HD0.out.below hb)
  replace HD1 := hid (HD1.out.below hb)
  replace HD2 := hid (HD2.out.below hb)
  replace HD3 := hid (HD3.out.below hb)
  replace HD4 := hid (HD4.out.below hb)
  replace HD5 := hid (HD5.out.below hb)
  replace HM := hid (HM.out.below hb)
  replace HH := hid (HH.out.below hb)
  replace HW3 := hid (HW3.out.trans (hb.mono HW3.out.size))
  clear hb
  go_wp2_with fail
  refine (awake_any _).mono ?_
  rintro e Y9 ⟨rfl, hb⟩
  go_wp2_with fail
  go_ret
  exact ⟨rfl, HW3.out.trans (hb.mono HW3.out.size)⟩
end Go.Proofs.Ytfnefkenheglhaa
