/- Field, Counts and Survey of the laws. -/
import Derived.Test.YtlicijnaacdceaaLawB
import Derived.Deep.RegionHeld3
namespace Go.Proofs.Ytlicijnaacdceaa
open Go.RowKit

theorem set3 {W : World} {b : Nat} {u0 u1 u2 : Value} (h0 : W.cell? ⟨b, 0, none⟩ = some u0) (h1 : W.cell? ⟨b, 1, none⟩ = some u1) (h2 : W.cell? ⟨b, 2, none⟩ = some u2) (x0 x1 x2 : Value) :
    (((W.setCell ⟨b, 0, none⟩ x0).setCell ⟨b, 1, none⟩ x1).setCell ⟨b, 2, none⟩ x2).cell? ⟨b, 0, none⟩ = some x0 ∧ (((W.setCell ⟨b, 0, none⟩ x0).setCell ⟨b, 1, none⟩ x1).setCell ⟨b, 2, none⟩ x2).cell? ⟨b, 1, none⟩ = some x1 ∧ (((W.setCell ⟨b, 0, none⟩ x0).setCell ⟨b, 1, none⟩ x1).setCell ⟨b, 2, none⟩ x2).cell? ⟨b, 2, none⟩ = some x2 :=
  ⟨by rw [World.cell?_setCell_other _ _ _ _ (by simp), World.cell?_setCell_other _ _ _ _ (by simp)]; exact World.cell?_setCell_same' _ _ _ (by rw [h0]; rfl),
   by rw [World.cell?_setCell_other _ _ _ _ (by simp)]; exact World.cell?_setCell_same' _ _ _ (by rw [World.cell?_setCell_other _ _ _ _ (by simp), h1]; rfl),
   World.cell?_setCell_same' _ _ _ (by rw [World.cell?_setCell_other _ _ _ _ (by simp), World.cell?_setCell_other _ _ _ _ (by simp), h2]; rfl)⟩

set_option maxRecDepth 40000 in
set_option maxHeartbeats 4000000 in
theorem fieldX_any (r cc : Int) (p : Option Addr) (n c : Nat) (l : List Int) (w : World) (hl : IntsAt w p n l) (hn : n ≤ 100) :
    Calls Try.prog 56 #[.agg #[.int .i64 r, .int .i64 cc, .slice p n c]] w fun e w' => ∃ p' c', e = .returned (.agg #[.int .i64 r, .int .i64 cc, .slice p' n c']) ∧ IntsAt w' p' n l ∧ Below w.heap.size w w' ∧ ∀ a, p' = some a → w.heap.size + 2 ≤ a.block := by
  have HL := hid hl
  have HNL := hid hl.1
  obtain ⟨W, hW⟩ : ∃ W, (w.alloc (.cells #[.int .i64 r, .int .i64 cc, .slice p n c] 24)).alloc (.cells #[.int .i64 0, .int .i64 0, .slice none 0 0] 33) = W := ⟨_, rfl⟩
  have HB2 : Hid (Boxed2 w #[.int .i64 r, .int .i64 cc, .slice p n c] 24 #[.int .i64 0, .int .i64 0, .slice none 0 0] 33 W) := by rw [← hW]; exact Below.refl _ _
  have HB1 : Hid (Boxed1 w #[.int .i64 r, .int .i64 cc, .slice p n c] 24 W) := by rw [← hW]; exact (Boxed1.start _ _ _).alloc _
  clear hl
  go_enter Try.func56, Try.ntmps56
  go_wp2_with fail
  refine wp_region_held_drew (S := fun V => Boxed1 w #[.int .i64 r, .int .i64 cc, .slice p n c] 24 V) (by kernel_rfl) HB1.out.drew (fun hS => ?_)
  simp only [List.size_toArray, List.length_cons, List.length_nil, Nat.reduceAdd, Array.replicate_succ, Array.replicate_zero, List.push_toArray, List.nil_append, List.cons_append]
  refine wpAnyH_take (i := 0) (v := ?_) rfl (by kernel_rfl) (by kernel_rfl) (by kernel_rfl) (fun _ _ _ h => h) (Or.inl ⟨by rfl, fun V hV => ?_⟩) (by assumption) ?_
  rotate_left
  · go_simp
    try with_reducible rfl
  try simp only [Act.put, List.getElem_toArray, List.getElem_cons_zero, List.setIfInBounds_toArray, List.set_cons_zero, List.set_cons_succ]
  refine wpAnyH_take (i := 1) (v := ?_) rfl (by kernel_rfl) (by kernel_rfl) (by kernel_rfl) (fun _ _ _ h => h) (Or.inl ⟨by rfl, fun V hV => ?_⟩) (by assumption) ?_
  rotate_left
  · have s0 := Boxed1.cell hV 0 (v := .int .i64 r) rfl; have s1 := Boxed1.cell hV 1 (v := .int .i64 cc) rfl; have s2 := Boxed1.cell hV 2 (v := .slice p n c) rfl; go_simp
    try with_reducible rfl
  try simp only [Act.put, List.getElem_toArray, List.getElem_cons_zero, List.getElem_cons_succ, List.setIfInBounds_toArray, List.set_cons_zero, List.set_cons_succ]
  refine wpAnyH_take (i := 2) (v := ?_) rfl (by kernel_rfl) (by kernel_rfl) (by kernel_rfl) (fun _ _ _ h => h) (Or.inl ⟨by rfl, fun V hV => ?_⟩) (by assumption) ?_
  rotate_left
  · go_simp
    try with_reducible rfl
  try simp only [Act.put, List.getElem_toArray, List.getElem_cons_zero, List.getElem_cons_succ, List.setIfInBounds_toArray, List.set_cons_zero, List.set_cons_succ]
  refine wpAnyH_take (i := 3) (v := ?_) rfl (by kernel_rfl) (by kernel_rfl) (by kernel_rfl) (fun _ _ _ h => h) (Or.inl ⟨by rfl, fun V hV => ?_⟩) (by assumption) ?_
  rotate_left
  · have s0 := Boxed1.cell hV 0 (v := .int .i64 r) rfl; have s1 := Boxed1.cell hV 1 (v := .int .i64 cc) rfl; have s2 := Boxed1.cell hV 2 (v := .slice p n c) rfl; go_simp
    try with_reducible rfl
  try simp only [Act.put, List.getElem_toArray, List.getElem_cons_zero, List.getElem_cons_succ, List.setIfInBounds_toArray, List.set_cons_zero, List.set_cons_succ]
  refine wpAnyH_take (i := 4) (v := ?_) rfl (by kernel_rfl) (by kernel_rfl) (by kernel_rfl) (fun _ _ _ h => h) (Or.inl ⟨by rfl, fun V hV => ?_⟩) (by assumption) ?_
  rotate_left
  · go_simp
    try with_reducible rfl
  try simp only [Act.put, List.getElem_toArray, List.getElem_cons_zero, List.getElem_cons_succ, List.setIfInBounds_toArray, List.set_cons_zero, List.set_cons_succ]
  refine wpAnyH_take (i := 5) (v := ?_) rfl (by kernel_rfl) (by kernel_rfl) (by kernel_rfl) (fun _ _ _ h => h) (Or.inl ⟨by rfl, fun V hV => ?_⟩) (by assumption) ?_
  rotate_left
  · have s0 := Boxed1.cell hV 0 (v := .int .i64 r) rfl; have s1 := Boxed1.cell hV 1 (v := .int .i64 cc) rfl; have s2 := Boxed1.cell hV 2 (v := .slice p n c) rfl; go_simp
    try with_reducible rfl
  try simp only [Act.put, List.getElem_toArray, List.getElem_cons_zero, List.getElem_cons_succ, List.setIfInBounds_toArray, List.set_cons_zero, List.set_cons_succ]
  refine wpAnyH_ready (rs := [6]) (by kernel_rfl) (by simp) ?_
  refine AllReadyH.cons (o := _) rfl (fun K hK => ?_) AllReadyH.nil
  go_simp
  refine (list_any p n c l _ (HL.out.below (Boxed1.below hS)) (by omega)).mono ?_
  rintro e V6 ⟨v, rfl, ho, hb⟩
  obtain ⟨p6, c6, rfl, h6⟩ := ho.slice
  have HBB := (HB2.out.drew.step (hb.mono HB2.out.size))
  have t0 := HBB.cell2 0 rfl
  have t1 := HBB.cell2 1 rfl
  have t2 := HBB.cell2 2 rfl
  have f0 := HBB.fz2 0 rfl
  have f1 := HBB.fz2 1 rfl
  have f2 := HBB.fz2 2 rfl
  have H6 := hid h6
  have HLT := hid (fun g hg => World.ownsRow.lt ho g hg)
  refine hK.out _ _ (Boxed1.step hS hb) (fun hS => ?_)
  clear hK K
  try simp only [List.setIfInBounds_toArray, List.set_cons_zero, List.set_cons_succ]
  refine wpAnyH_take (i := 7) (v := ?_) rfl (by kernel_rfl) (by kernel_rfl) (by kernel_rfl) (fun _ _ _ h => h) (Or.inl ⟨by rfl, fun V hV => ?_⟩) (by assumption) ?_
  rotate_left
  · go_simp
    try with_reducible rfl
  try simp only [Act.put, List.getElem_toArray, List.getElem_cons_zero, List.getElem_cons_succ, List.setIfInBounds_toArray, List.set_cons_zero, List.set_cons_succ]
  refine wpAnyH_ready (rs := [8]) (by kernel_rfl) (by simp) ?_
  refine AllReadyH.cons (o := _) rfl (fun K hK => ?_) AllReadyH.nil
  go_simp
  refine hK.out _ _ (Below.setCell (Below.setCell (Below.setCell hS (p := ⟨w.heap.size + 1, 0, none⟩) (Nat.le_refl _) _) (p := ⟨w.heap.size + 1, 1, none⟩) (Nat.le_refl _) _) (p := ⟨w.heap.size + 1, 2, none⟩) (Nat.le_refl _) _) (fun hS => ?_)
  clear hK K
  try simp only [List.setIfInBounds_toArray, List.set_cons_zero, List.set_cons_succ]
  refine wpAnyH_done (by kernel_rfl) ?_ _
  have HS := hid (Boxed1.below hS)
  have ⟨r0, r1, r2⟩ := set3 t0 t1 t2 (.int .i64 r) (.int .i64 cc) (.slice p6 l.length c6)
  clear hS
  go_wp2
  refine bodyPost_ret (v := .agg #[.int .i64 r, .int .i64 cc, .slice p6 l.length c6]) (by simp [results, Try.f56, go_sem, r0, r1, r2]) rfl ⟨p6, c6, by rw [HNL.out], ?_, HS.out, fun a ha => by cases ha; exact Nat.le_trans HB2.out.size (HLT.out a.block rfl).1⟩
  rw [HNL.out]
  refine IntsAt.kept (w := V6) H6.out (fun a ha _ _ => ?_)
  cases ha
  have h9 : w.heap.size + 2 ≤ a.block := Nat.le_trans HB2.out.size (HLT.out a.block rfl).1
  rw [Below.heap_setCell _ _ _ _ (by show a.block ≠ w.heap.size + 1; omega), Below.heap_setCell _ _ _ _ (by show a.block ≠ w.heap.size + 1; omega), Below.heap_setCell _ _ _ _ (by show a.block ≠ w.heap.size + 1; omega)]

theorem step_append_cnt {ops : Array Oper} {o : Oper} {a : Act} {w : World} {K : Act → World → Prop} {Q : Exit → Act → World → Prop} {E : Prop} (hgd : o.guard = none) (s x : Operand)
    (ho : o.op = .call { callee := .builtin .append, args := #[s, x], argTypes := #[34, 34] })
    (base : Nat) (v : Value) (l : List Cnt) (y : Cnt) (bx : Nat) (hown : OwnCnts w base v l) (hs : a.eval s = v) (hx : a.eval x = .slice (some ⟨bx, 0, none⟩) 1 1) (hc : ∀ j v, (cells4 y)[j]? = some v → w.cell? ⟨bx, j, none⟩ = some v)
    (hlen : l.length ≤ 1000000) (hbase : base ≤ w.heap.size)
    (h : ∀ g cap w', OwnCnts w' base (.slice (some ⟨g, 0, none⟩) (l.length + 1) cap) (l ++ [y]) → Below base w w' → K (a.put o.dst (.slice (some ⟨g, 0, none⟩) (l.length + 1) cap)) w') :
    if Region.wanted o (yielded ops a.tmps) = true then Oper.wp Try.prog o a w K Q else E := by
  obtain ⟨i0, hi, hz0, hz1, hz2⟩ := info_parts Try.info101
  refine step_append_lies w hgd s x 34 ho base 101 i0 _ 4 32 Try.und34 hi hz0 hz1 hz2 rfl (by decide) v l.length _ hs hown ⟨bx, 0, none⟩ 1 1 (cells4 y) hx rfl ?_ ?_ (by decide) (by unfold maxLen; omega) (by omega) hbase w.heap.size rfl ?_
  · intro j u hj
    have e : (⟨bx, 0, none⟩ : Addr).add j = ⟨bx, j, none⟩ := by unfold Addr.add; split <;> simp_all
    rw [e]; exact hc j u hj
  · intro u hu
    simp only [cells4, List.mem_cons, List.not_mem_nil, or_false] at hu
    rcases hu with rfl | rfl | rfl | rfl <;> simp [Value.oneCell']
  · intro g cap w' h1 h2 h3 h4
    refine h g cap w' ?_ ?_
    · unfold OwnCnts
      simpa [List.flatMap_append] using h1
    · refine (Below.refl base w).grown h2 hbase ?_
      intro k hk
      exact (World.ownsRow.lt hown k hk).1

set_option maxRecDepth 40000 in
set_option maxHeartbeats 8000000 in
theorem countsX_any (q : Option Addr) (m d : Nat) (cs : List Cnt) (w : World) (hcs : CntsAt w q m cs) (hm : m ≤ 100) :
    Calls Try.prog 59 #[.slice q m d] w fun e w' => ∃ v, e = .returned v ∧ OwnCnts w' w.heap.size v cs ∧ Below w.heap.size w w' := by
  have HCS := hid hcs
  have HML := hid hcs.1
  clear hcs
  go_enter Try.func59, Try.ntmps59
  go_wp2_with fail
  go_loopw [3, 4] (fun v x wr => ∃ k : Nat, k ≤ m ∧ x = .int .i64 k ∧ OwnCnts wr w.heap.size v (cs.take k) ∧ Below w.heap.size w wr) (fun _ x _ => m - (intOf x).toNat)
  case atStart => exact ⟨0, Nat.zero_le _, rfl, World.ownsRow_nil _ _ _ _, Below.refl _ _⟩
  case round =>
    obtain ⟨k, hk, rfl, ho, hw⟩ := hrel
    have HO := hid ho
    have HW := hid hw
    have HSW : Hid (w.heap.size ≤ wr.heap.size) := hw.size
    clear ho hw
    by_cases hlt : k < m
    · obtain ⟨x, hx0, b1, o1, rfl, hb1, hc0, hc1, hc2, hc3⟩ := HCS.out.at hlt
      have hkl : k < cs.length := by have := HML.out; omega
      have HTK : Hid (cs.take (k + 1) = cs.take k ++ [x]) := by
        show _ = _
        rw [List.take_add_one, hx0]; rfl
      have HV : Hid (∀ V, Below w.heap.size w V → V.cell? ⟨b1, o1 + k * 4, none⟩ = some (.int .i64 x.place) ∧ V.cell? ⟨b1, o1 + k * 4 + 1, none⟩ = some (.int .i64 x.lo) ∧ V.cell? ⟨b1, o1 + k * 4 + 2, none⟩ = some (.int .i64 x.hi) ∧ V.cell? ⟨b1, o1 + k * 4 + 3, none⟩ = some (.bool x.late)) := by
        intro V hV
        have kk : ∀ (p : Addr) (v : Value), w.cell? p = some v → V.cell? p = some v := fun p v h => (hV.cell (World.block_lt_of_cell? _ _ h)).trans h
        exact ⟨kk _ _ hc0, kk _ _ hc1, kk _ _ hc2, kk _ _ hc3⟩
      clear hx0 hc0 hc1 hc2 hc3
      go_wp2_with fail
      refine wp_region_held_drew (S := fun V => Below w.heap.size w V) (by kernel_rfl) HW.out.drew (fun hS => ?_)
      simp only [List.size_toArray, List.length_cons, List.length_nil, Nat.reduceAdd, Array.replicate_succ, Array.replicate_zero, List.push_toArray, List.nil_append, List.cons_append]
      refine wpAnyH_take (i := 0) (v := ?_) rfl (by kernel_rfl) (by kernel_rfl) (by kernel_rfl) (fun _ _ _ h => h) (Or.inl ⟨by rfl, fun V hV => ?_⟩) (by assumption) ?_
      rotate_left
      · go_simp
        try with_reducible rfl
      try simp only [Act.put, List.getElem_toArray, List.getElem_cons_zero, List.setIfInBounds_toArray, List.set_cons_zero, List.set_cons_succ]
      refine wpAnyH_take (i := 1) (v := ?_) rfl (by kernel_rfl) (by kernel_rfl) (by kernel_rfl) (fun _ _ _ h => h) (Or.inl ⟨by rfl, fun V hV => ?_⟩) (by assumption) ?_
      rotate_left
      · go_simp
        try with_reducible rfl
      try simp only [Act.put, List.getElem_toArray, List.getElem_cons_zero, List.getElem_cons_succ, List.setIfInBounds_toArray, List.set_cons_zero, List.set_cons_succ]
      refine wpAnyH_take (i := 2) (v := ?_) rfl (by kernel_rfl) (by kernel_rfl) (by kernel_rfl) (fun _ _ _ h => h) (Or.inl ⟨by rfl, fun V hV => ?_⟩) (by assumption) ?_
      rotate_left
      · go_simp
        try with_reducible rfl
      try simp only [Act.put, List.getElem_toArray, List.getElem_cons_zero, List.getElem_cons_succ, List.setIfInBounds_toArray, List.set_cons_zero, List.set_cons_succ]
      refine wpAnyH_take (i := 3) (v := ?_) rfl (by kernel_rfl) (by kernel_rfl) (by kernel_rfl) (fun _ _ _ h => h) (Or.inl ⟨by rfl, fun V hV => ?_⟩) (by assumption) ?_
      rotate_left
      · go_simp
        try with_reducible rfl
      try simp only [Act.put, List.getElem_toArray, List.getElem_cons_zero, List.getElem_cons_succ, List.setIfInBounds_toArray, List.set_cons_zero, List.set_cons_succ]
      refine wpAnyH_take (i := 4) (v := ?_) rfl (by kernel_rfl) (by kernel_rfl) (by kernel_rfl) (fun _ _ _ h => h) (Or.inl ⟨by rfl, fun V hV => ?_⟩) (by assumption) ?_
      rotate_left
      · go_simp
        try with_reducible rfl
      try simp only [Act.put, List.getElem_toArray, List.getElem_cons_zero, List.getElem_cons_succ, List.setIfInBounds_toArray, List.set_cons_zero, List.set_cons_succ]
      refine wpAnyH_take (i := 5) (v := ?_) rfl (by kernel_rfl) (by kernel_rfl) (by kernel_rfl) (fun _ _ _ h => h) (Or.inl ⟨by rfl, fun V hV => ?_⟩) (by assumption) ?_
      rotate_left
      · have ⟨d0, d1, d2, d3⟩ := HV.out V hV; go_simp
        try with_reducible rfl
      try simp only [Act.put, List.getElem_toArray, List.getElem_cons_zero, List.getElem_cons_succ, List.setIfInBounds_toArray, List.set_cons_zero, List.set_cons_succ]
      refine wpAnyH_take (i := 6) (v := ?_) rfl (by kernel_rfl) (by kernel_rfl) (by kernel_rfl) (fun _ _ _ h => h) (Or.inl ⟨by rfl, fun V hV => ?_⟩) (by assumption) ?_
      rotate_left
      · go_simp
        try with_reducible rfl
      try simp only [Act.put, List.getElem_toArray, List.getElem_cons_zero, List.getElem_cons_succ, List.setIfInBounds_toArray, List.set_cons_zero, List.set_cons_succ]
      refine wpAnyH_take (i := 7) (v := ?_) rfl (by kernel_rfl) (by kernel_rfl) (by kernel_rfl) (fun _ _ _ h => h) (Or.inl ⟨by rfl, fun V hV => ?_⟩) (by assumption) ?_
      rotate_left
      · go_simp
        try with_reducible rfl
      try simp only [Act.put, List.getElem_toArray, List.getElem_cons_zero, List.getElem_cons_succ, List.setIfInBounds_toArray, List.set_cons_zero, List.set_cons_succ]
      refine wpAnyH_take (i := 8) (v := ?_) rfl (by kernel_rfl) (by kernel_rfl) (by kernel_rfl) (fun _ _ _ h => h) (Or.inl ⟨by rfl, fun V hV => ?_⟩) (by assumption) ?_
      rotate_left
      · go_simp
        try with_reducible rfl
      try simp only [Act.put, List.getElem_toArray, List.getElem_cons_zero, List.getElem_cons_succ, List.setIfInBounds_toArray, List.set_cons_zero, List.set_cons_succ]
      refine wpAnyH_take (i := 9) (v := ?_) rfl (by kernel_rfl) (by kernel_rfl) (by kernel_rfl) (fun _ _ _ h => h) (Or.inl ⟨by rfl, fun V hV => ?_⟩) (by assumption) ?_
      rotate_left
      · go_simp
        try with_reducible rfl
      try simp only [Act.put, List.getElem_toArray, List.getElem_cons_zero, List.getElem_cons_succ, List.setIfInBounds_toArray, List.set_cons_zero, List.set_cons_succ]
      refine wpAnyH_take (i := 10) (v := ?_) rfl (by kernel_rfl) (by kernel_rfl) (by kernel_rfl) (fun _ _ _ h => h) (Or.inl ⟨by rfl, fun V hV => ?_⟩) (by assumption) ?_
      rotate_left
      · have ⟨d0, d1, d2, d3⟩ := HV.out V hV; go_simp
        try with_reducible rfl
      try simp only [Act.put, List.getElem_toArray, List.getElem_cons_zero, List.getElem_cons_succ, List.setIfInBounds_toArray, List.set_cons_zero, List.set_cons_succ]
      refine wpAnyH_take (i := 12) (v := ?_) rfl (by kernel_rfl) (by kernel_rfl) (by kernel_rfl) (fun _ _ _ h => h) (Or.inl ⟨by rfl, fun V hV => ?_⟩) (by assumption) ?_
      rotate_left
      · go_simp
        try with_reducible rfl
      try simp only [Act.put, List.getElem_toArray, List.getElem_cons_zero, List.getElem_cons_succ, List.setIfInBounds_toArray, List.set_cons_zero, List.set_cons_succ]
      refine wpAnyH_take (i := 13) (v := ?_) rfl (by kernel_rfl) (by kernel_rfl) (by kernel_rfl) (fun _ _ _ h => h) (Or.inl ⟨by rfl, fun V hV => ?_⟩) (by assumption) ?_
      rotate_left
      · go_simp
        try with_reducible rfl
      try simp only [Act.put, List.getElem_toArray, List.getElem_cons_zero, List.getElem_cons_succ, List.setIfInBounds_toArray, List.set_cons_zero, List.set_cons_succ]
      refine wpAnyH_take (i := 14) (v := ?_) rfl (by kernel_rfl) (by kernel_rfl) (by kernel_rfl) (fun _ _ _ h => h) (Or.inl ⟨by rfl, fun V hV => ?_⟩) (by assumption) ?_
      rotate_left
      · go_simp
        try with_reducible rfl
      try simp only [Act.put, List.getElem_toArray, List.getElem_cons_zero, List.getElem_cons_succ, List.setIfInBounds_toArray, List.set_cons_zero, List.set_cons_succ]
      refine wpAnyH_take (i := 15) (v := ?_) rfl (by kernel_rfl) (by kernel_rfl) (by kernel_rfl) (fun _ _ _ h => h) (Or.inl ⟨by rfl, fun V hV => ?_⟩) (by assumption) ?_
      rotate_left
      · go_simp
        try with_reducible rfl
      try simp only [Act.put, List.getElem_toArray, List.getElem_cons_zero, List.getElem_cons_succ, List.setIfInBounds_toArray, List.set_cons_zero, List.set_cons_succ]
      refine wpAnyH_take (i := 16) (v := ?_) rfl (by kernel_rfl) (by kernel_rfl) (by kernel_rfl) (fun _ _ _ h => h) (Or.inl ⟨by rfl, fun V hV => ?_⟩) (by assumption) ?_
      rotate_left
      · have ⟨d0, d1, d2, d3⟩ := HV.out V hV; go_simp
        try with_reducible rfl
      try simp only [Act.put, List.getElem_toArray, List.getElem_cons_zero, List.getElem_cons_succ, List.setIfInBounds_toArray, List.set_cons_zero, List.set_cons_succ]
      refine wpAnyH_ready (rs := [11]) (by kernel_rfl) (by simp) ?_
      refine AllReadyH.cons (o := _) rfl (fun K hK => ?_) AllReadyH.nil
      go_simp
      refine (to_any x.lo x.hi _).mono ?_
      rintro e V11 ⟨rfl, hb⟩
      have hS1 := hS.trans (hb.mono hS.size)
      have ho := HO.out.below ((Below.refl wr.heap.size wr).drew.trans hb)
      clear hb
      refine hK.out _ _ (hS1) (fun hS => ?_)
      clear hK K
      try simp only [List.setIfInBounds_toArray, List.set_cons_zero, List.set_cons_succ]
      refine wpAnyH_take (i := 17) (v := ?_) rfl (by kernel_rfl) (by kernel_rfl) (by kernel_rfl) (fun _ _ _ h => h) (Or.inl ⟨by rfl, fun V hV => ?_⟩) (by assumption) ?_
      rotate_left
      · go_simp
        try with_reducible rfl
      try simp only [Act.put, List.getElem_toArray, List.getElem_cons_zero, List.getElem_cons_succ, List.setIfInBounds_toArray, List.set_cons_zero, List.set_cons_succ]
      refine wpAnyH_ready (rs := [18]) (by kernel_rfl) (by simp) ?_
      refine AllReadyH.cons (o := _) rfl (fun K hK => ?_) AllReadyH.nil
      obtain ⟨V18, hV18⟩ : ∃ V18, V11.alloc (.cells #[.int .i64 x.place, .int .i64 x.lo, .int .i64 x.hi, .bool x.late] 101) = V18 := ⟨_, rfl⟩
      have hb : Below V11.heap.size V11 V18 := by rw [← hV18]; exact (Below.refl _ _).alloc (Nat.le_refl _) _
      have hx : ∀ j v, (cells4 x)[j]? = some v → V18.cell? ⟨V11.heap.size, j, none⟩ = some v := fun j v hj => by rw [← hV18]; exact cell_box V11 _ 101 j v (by simpa [cells4] using hj)
      have hS1 := hS.trans (hb.mono hS.size)
      have ho := ho.below hb
      go_simp
      refine hK.out _ _ (hS1) (fun hS => ?_)
      clear hK K
      try simp only [List.setIfInBounds_toArray, List.set_cons_zero, List.set_cons_succ]
      refine wpAnyH_ready (rs := [19]) (by kernel_rfl) (by simp) ?_
      refine AllReadyH.cons (o := _) rfl (fun K hK => ?_) AllReadyH.nil
      refine step_append_cnt (by rfl) (.tmp 11) (.tmp 29) (by rfl) w.heap.size _ (cs.take k) x V11.heap.size ho rfl rfl hx (by rw [List.length_take]; omega) hS.size ?_
      intro g cap V19 ho hb
      refine hK.out _ _ (hS.trans hb) (fun hS => ?_)
      clear hK K
      try simp only [Act.put, List.getElem_toArray, List.getElem_cons_zero, List.getElem_cons_succ, List.setIfInBounds_toArray, List.set_cons_zero, List.set_cons_succ]
      refine wpAnyH_take (i := 20) (v := ?_) rfl (by kernel_rfl) (by kernel_rfl) (by kernel_rfl) (fun _ _ _ h => h) (Or.inl ⟨by rfl, fun V hV => ?_⟩) (by assumption) ?_
      rotate_left
      · go_simp
        try with_reducible rfl
      try simp only [Act.put, List.getElem_toArray, List.getElem_cons_zero, List.getElem_cons_succ, List.setIfInBounds_toArray, List.set_cons_zero, List.set_cons_succ]
      refine wpAnyH_done (by kernel_rfl) ?_ _
      have HO2 := hid ho
      have HS2 := hid hS
      clear ho hS
      go_wp2
      go_roundw
      case rel => exact ⟨k + 1, by omega, by go_num, by have h9 := HO2.out; rw [List.length_take] at h9; rw [HTK.out]; exact h9, HS2.out⟩
      case measure => simp [intOf]; omega
    · have hkm : k = m := by omega
      have ho2 := HO.out
      rw [hkm, HML.out, List.take_length] at ho2
      have HO2 := hid ho2
      clear ho2 hkm
      go_wp2_with fail
      go_ret
      exact ⟨_, rfl, HO2.out, HW.out⟩

set_option maxRecDepth 40000 in
set_option maxHeartbeats 4000000 in
theorem surveyX_any (r cc : Int) (p : Option Addr) (n c : Nat) (l : List Int) (sm : Int) (q : Option Addr) (m d : Nat) (cs : List Cnt) (w : World) (hl : IntsAt w p n l) (hcs : CntsAt w q m cs) (hn : n ≤ 100) (hm : m ≤ 100) :
    Calls Try.prog 22 #[.agg #[.int .i64 r, .int .i64 cc, .slice p n c, .int .i64 sm, .slice q m d]] w (RetSurv w r cc l sm cs) := by
  have HL := hid hl
  have HCS := hid hcs
  obtain ⟨W, hW⟩ : ∃ W, (w.alloc (.cells #[.int .i64 r, .int .i64 cc, .slice p n c, .int .i64 sm, .slice q m d] 27)).alloc (.cells #[.int .i64 0, .int .i64 0, .slice none 0 0, .int .i64 0, .slice none 0 0] 36) = W := ⟨_, rfl⟩
  have HB2 : Hid (Boxed2 w #[.int .i64 r, .int .i64 cc, .slice p n c, .int .i64 sm, .slice q m d] 27 #[.int .i64 0, .int .i64 0, .slice none 0 0, .int .i64 0, .slice none 0 0] 36 W) := by rw [← hW]; exact Below.refl _ _
  have HB1 : Hid (Boxed1 w #[.int .i64 r, .int .i64 cc, .slice p n c, .int .i64 sm, .slice q m d] 27 W) := by rw [← hW]; exact (Boxed1.start _ _ _).alloc _
  clear hl hcs
  go_enter Try.func22, Try.ntmps22
  go_wp2_with fail
  refine wp_region_held_drew (S := fun V => Boxed1 w #[.int .i64 r, .int .i64 cc, .slice p n c, .int .i64 sm, .slice q m d] 27 V) (by kernel_rfl) HB1.out.drew (fun hS => ?_)
  simp only [List.size_toArray, List.length_cons, List.length_nil, Nat.reduceAdd, Array.replicate_succ, Array.replicate_zero, List.push_toArray, List.nil_append, List.cons_append]
  refine wpAnyH_take (i := 0) (v := ?_) rfl (by kernel_rfl) (by kernel_rfl) (by kernel_rfl) (fun _ _ _ h => h) (Or.inl ⟨by rfl, fun V hV => ?_⟩) (by assumption) ?_
  rotate_left
  · go_simp
    try with_reducible rfl
  try simp only [Act.put, List.getElem_toArray, List.getElem_cons_zero, List.setIfInBounds_toArray, List.set_cons_zero, List.set_cons_succ]
  refine wpAnyH_take (i := 1) (v := ?_) rfl (by kernel_rfl) (by kernel_rfl) (by kernel_rfl) (fun _ _ _ h => h) (Or.inl ⟨by rfl, fun V hV => ?_⟩) (by assumption) ?_
  rotate_left
  · have s0 := Boxed1.cell hV 0 (v := .int .i64 r) rfl; have s1 := Boxed1.cell hV 1 (v := .int .i64 cc) rfl; have s2 := Boxed1.cell hV 2 (v := .slice p n c) rfl; have s3 := Boxed1.cell hV 3 (v := .int .i64 sm) rfl; have s4 := Boxed1.cell hV 4 (v := .slice q m d) rfl; go_simp
    try with_reducible rfl
  try simp only [Act.put, List.getElem_toArray, List.getElem_cons_zero, List.getElem_cons_succ, List.setIfInBounds_toArray, List.set_cons_zero, List.set_cons_succ]
  refine wpAnyH_take (i := 3) (v := ?_) rfl (by kernel_rfl) (by kernel_rfl) (by kernel_rfl) (fun _ _ _ h => h) (Or.inl ⟨by rfl, fun V hV => ?_⟩) (by assumption) ?_
  rotate_left
  · go_simp
    try with_reducible rfl
  try simp only [Act.put, List.getElem_toArray, List.getElem_cons_zero, List.getElem_cons_succ, List.setIfInBounds_toArray, List.set_cons_zero, List.set_cons_succ]
  refine wpAnyH_take (i := 4) (v := ?_) rfl (by kernel_rfl) (by kernel_rfl) (by kernel_rfl) (fun _ _ _ h => h) (Or.inl ⟨by rfl, fun V hV => ?_⟩) (by assumption) ?_
  rotate_left
  · have s0 := Boxed1.cell hV 0 (v := .int .i64 r) rfl; have s1 := Boxed1.cell hV 1 (v := .int .i64 cc) rfl; have s2 := Boxed1.cell hV 2 (v := .slice p n c) rfl; have s3 := Boxed1.cell hV 3 (v := .int .i64 sm) rfl; have s4 := Boxed1.cell hV 4 (v := .slice q m d) rfl; go_simp
    try with_reducible rfl
  try simp only [Act.put, List.getElem_toArray, List.getElem_cons_zero, List.getElem_cons_succ, List.setIfInBounds_toArray, List.set_cons_zero, List.set_cons_succ]
  refine wpAnyH_take (i := 5) (v := ?_) rfl (by kernel_rfl) (by kernel_rfl) (by kernel_rfl) (fun _ _ _ h => h) (Or.inl ⟨by rfl, fun V hV => ?_⟩) (by assumption) ?_
  rotate_left
  · go_simp
    try with_reducible rfl
  try simp only [Act.put, List.getElem_toArray, List.getElem_cons_zero, List.getElem_cons_succ, List.setIfInBounds_toArray, List.set_cons_zero, List.set_cons_succ]
  refine wpAnyH_take (i := 6) (v := ?_) rfl (by kernel_rfl) (by kernel_rfl) (by kernel_rfl) (fun _ _ _ h => h) (Or.inl ⟨by rfl, fun V hV => ?_⟩) (by assumption) ?_
  rotate_left
  · have s0 := Boxed1.cell hV 0 (v := .int .i64 r) rfl; have s1 := Boxed1.cell hV 1 (v := .int .i64 cc) rfl; have s2 := Boxed1.cell hV 2 (v := .slice p n c) rfl; have s3 := Boxed1.cell hV 3 (v := .int .i64 sm) rfl; have s4 := Boxed1.cell hV 4 (v := .slice q m d) rfl; go_simp
    try with_reducible rfl
  try simp only [Act.put, List.getElem_toArray, List.getElem_cons_zero, List.getElem_cons_succ, List.setIfInBounds_toArray, List.set_cons_zero, List.set_cons_succ]
  refine wpAnyH_ready (rs := [2]) (by kernel_rfl) (by simp) ?_
  refine AllReadyH.cons (o := _) rfl (fun K hK => ?_) AllReadyH.nil
  go_simp
  refine (fieldX_any r cc p n c l _ (HL.out.below (Boxed1.below hS)) hn).mono ?_
  rintro e V2 ⟨p2, c2, rfl, h2, hb, hp2⟩
  have HP2 : Hid (∀ a, p2 = some a → w.heap.size + 2 ≤ a.block) := fun a ha => by have h8 := hp2 a ha; have h9 : w.heap.size + 2 ≤ W.heap.size := HB2.out.size; exact Nat.le_trans h9 (Nat.le_trans (Nat.le_add_right _ 2) h8)
  refine hK.out _ _ (Boxed1.step hS hb) (fun hS => ?_)
  clear hK K
  try simp only [List.setIfInBounds_toArray, List.set_cons_zero, List.set_cons_succ]
  refine wpAnyH_ready (rs := [7]) (by kernel_rfl) (by simp) ?_
  refine AllReadyH.cons (o := _) rfl (fun K hK => ?_) AllReadyH.nil
  go_simp
  refine (countsX_any q m d cs _ (HCS.out.below (Boxed1.below hS)) hm).mono ?_
  rintro e V7 ⟨v7, rfl, ho, hb7⟩
  obtain ⟨q7, d7, rfl, h7⟩ := ho.slice
  have hlt7 := fun g hg => World.ownsRow.lt ho g hg
  have HBB := (HB2.out.drew.step (hb.mono HB2.out.size)).step (hb7.mono (Nat.le_trans HB2.out.size hb.size))
  have t0 := HBB.cell2 0 rfl
  have t1 := HBB.cell2 1 rfl
  have t2 := HBB.cell2 2 rfl
  have t3 := HBB.cell2 3 rfl
  have t4 := HBB.cell2 4 rfl
  have f0 := HBB.fz2 0 rfl
  have f1 := HBB.fz2 1 rfl
  have f2 := HBB.fz2 2 rfl
  have f3 := HBB.fz2 3 rfl
  have f4 := HBB.fz2 4 rfl
  have H2 := hid (h2.below hb7)
  have H7 := hid h7
  have HLT7 := hid hlt7
  have HSV2 : Hid (w.heap.size + 2 ≤ V2.heap.size) := Nat.le_trans HB2.out.size hb.size
  refine hK.out _ _ (Boxed1.step hS hb7) (fun hS => ?_)
  clear hK K
  try simp only [List.setIfInBounds_toArray, List.set_cons_zero, List.set_cons_succ]
  refine wpAnyH_take (i := 8) (v := ?_) rfl (by kernel_rfl) (by kernel_rfl) (by kernel_rfl) (fun _ _ _ h => h) (Or.inl ⟨by rfl, fun V hV => ?_⟩) (by assumption) ?_
  rotate_left
  · go_simp
    try with_reducible rfl
  try simp only [Act.put, List.getElem_toArray, List.getElem_cons_zero, List.getElem_cons_succ, List.setIfInBounds_toArray, List.set_cons_zero, List.set_cons_succ]
  refine wpAnyH_ready (rs := [9]) (by kernel_rfl) (by simp) ?_
  refine AllReadyH.cons (o := _) rfl (fun K hK => ?_) AllReadyH.nil
  go_simp
  refine hK.out _ _ (Below.setCell (Below.setCell (Below.setCell (Below.setCell (Below.setCell hS (p := ⟨w.heap.size + 1, 0, none⟩) (Nat.le_refl _) _) (p := ⟨w.heap.size + 1, 1, none⟩) (Nat.le_refl _) _) (p := ⟨w.heap.size + 1, 2, none⟩) (Nat.le_refl _) _) (p := ⟨w.heap.size + 1, 3, none⟩) (Nat.le_refl _) _) (p := ⟨w.heap.size + 1, 4, none⟩) (Nat.le_refl _) _) (fun hS => ?_)
  clear hK K
  try simp only [List.setIfInBounds_toArray, List.set_cons_zero, List.set_cons_succ]
  refine wpAnyH_done (by kernel_rfl) ?_ _
  have HS := hid (Boxed1.below hS)
  have ⟨r0, r1, r2, r3, r4⟩ := set5 t0 t1 t2 t3 t4 (.int .i64 r) (.int .i64 cc) (.slice p2 n c2) (.int .i64 sm) (.slice q7 cs.length d7)
  clear hS hb hb7 ho HBB
  go_wp2
  refine bodyPost_ret (v := .agg #[.int .i64 r, .int .i64 cc, .slice p2 n c2, .int .i64 sm, .slice q7 cs.length d7]) (by simp [results, Try.f22, go_sem, r0, r1, r2, r3, r4]) rfl ⟨p2, n, c2, q7, cs.length, d7, rfl, ?_, ?_, HS.out⟩
  · refine IntsAt.kept (w := V7) H2.out (fun a ha h0 hlt => heap_set5 V7 (w.heap.size + 1) _ _ _ _ _ a.block ?_)
    have := HP2.out a ha
    omega
  · refine CntsAt.kept (w := V7) H7.out (fun a ha h0 hlt => heap_set5 V7 (w.heap.size + 1) _ _ _ _ _ a.block ?_) (by simp [World.setCell])
    cases ha
    have h9 : w.heap.size + 2 ≤ a.block := Nat.le_trans HSV2.out (HLT7.out a.block rfl).1
    omega
end Go.Proofs.Ytlicijnaacdceaa
