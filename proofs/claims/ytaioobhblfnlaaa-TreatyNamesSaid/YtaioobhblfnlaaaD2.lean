/- The statements' helper: a programme for the program. Condition: lists of at most 1000 elements. -/
import Derived.Test.YtaioobhblfnlaaaD1
namespace Go.Proofs.Ytaioobhblfnlaaa
open Go.RowKit

theorem Try.info51 : (Try.prog.info? 51).map (fun i => (i.zero, i.size, i.bytes)) = some (some (.agg #[.int .i64 0, .int .i64 0]), 2, 16) := by kernel_rfl
theorem Try.und33 : Try.prog.underlying 33 = some (.slice 51) := by kernel_rfl
theorem Try.info87 : (Try.prog.info? 87).map (fun i => (i.zero, i.size, i.bytes)) = some (some (.agg #[.int .i64 0, .int .i64 0, .int .i64 0, .int .i64 0, .int .i64 0, .int .i64 0, .int .i64 0]), 7, 56) := by kernel_rfl
theorem Try.und34 : Try.prog.underlying 34 = some (.slice 87) := by kernel_rfl
theorem Try.info89 : (Try.prog.info? 89).map (fun i => (i.zero, i.size, i.bytes)) = some (some (.agg #[.int .i64 0, .int .i64 0, .int .i64 0]), 3, 24) := by kernel_rfl
theorem Try.und35 : Try.prog.underlying 35 = some (.slice 89) := by kernel_rfl
theorem OwnRows.near {α : Type} {enc : α → List Value} {z : Nat} {T : TypeId} {S : Nat → Prop} {w w' : World} {base : Nat} {v : Value} {l : List α} (h : OwnRows enc z T w base v l) (hn : Near S w w') (hS : ∀ k, base ≤ k → ¬ S k) : OwnRows enc z T w' base v l :=
  h.block fun g hg => hn.block g (h.lt g hg).2 (hS g (h.lt g hg).1)
theorem OwnRows.cap {α : Type} {enc : α → List Value} {z : Nat} {T : TypeId} {w : World} {base : Nat} {p : Option Addr} {n c : Nat} {l : List α} (h : OwnRows enc z T w base (.slice p n c) l) : n ≤ c := by
  obtain ⟨_, h | ⟨g, cap, cur, hv, _, _, hc, _⟩⟩ := h
  · cases h.1; exact Nat.le_refl _
  · cases hv; exact hc
/-- append(out, y), y a struct in a block of its own: at a step of a region that draws its order. -/
theorem step_append_row {α : Type} {enc : α → List Value} {z : Nat} (hz : ∀ c, (enc c).length = z) (h0 : 0 < z) (hone : ∀ c, ∀ u ∈ enc c, u.oneCell' = true) (sl T : TypeId) (zero : Value) (bytes : Nat) (hby : bytes ≤ 1000)
    (hinfo : (Try.prog.info? T).map (fun i => (i.zero, i.size, i.bytes)) = some (some zero, z, bytes)) (hzero : zero.cells.size = z) (hund : Try.prog.underlying sl = some (.slice T))
    {ops : Array Oper} {o : Oper} {a : Act} {w : World} {K : Act → World → Prop} {Q : Exit → Act → World → Prop} {E : Prop} (hgd : o.guard = none) (s x : Operand)
    (ho : o.op = .call { callee := .builtin .append, args := #[s, x], argTypes := #[sl, sl] })
    (base : Nat) (v : Value) (l : List α) (y : α) (bx : Nat) (hown : OwnRows enc z T w base v l) (hs : a.eval s = v) (hx : a.eval x = .slice (some ⟨bx, 0, none⟩) 1 1) (hc : ∀ j u, (enc y)[j]? = some u → w.cell? ⟨bx, j, none⟩ = some u)
    (hlen : l.length ≤ 1000000) (hbase : base ≤ w.heap.size)
    (h : ∀ g cap w', OwnRows enc z T w' base (.slice (some ⟨g, 0, none⟩) (l.length + 1) cap) (l ++ [y]) → Below base w w' → base ≤ g → (∀ k, k < w.heap.size → some k ≠ v.ownBlock → w'.heap[k]? = w.heap[k]?) → K (a.put o.dst (.slice (some ⟨g, 0, none⟩) (l.length + 1) cap)) w') :
    if Region.wanted o (yielded ops a.tmps) = true then Oper.wp Try.prog o a w K Q else E := by
  obtain ⟨i0, hi, hz0, hz1, hz2⟩ := info_parts hinfo
  refine step_append_lies w hgd s x sl ho base T i0 zero z bytes hund hi hz0 hz1 hz2 hzero h0 v l.length (l.flatMap enc) hs hown ⟨bx, 0, none⟩ 1 1 (enc y) hx (by rw [hz, Nat.one_mul]) ?_ (hone y) (by decide) (by unfold maxLen; omega) ?_ hbase w.heap.size rfl ?_
  · intro j u hj
    have e : (⟨bx, 0, none⟩ : Addr).add j = ⟨bx, 0 + j, none⟩ := by unfold Addr.add; split <;> simp_all
    rw [e, Nat.zero_add]; exact hc j u hj
  · have : (l.length + 1) * bytes ≤ 2000000 * 1000 := Nat.mul_le_mul (by omega) hby
    omega
  · intro g cap w' h1 h2 h3 h4
    refine h g cap w' ?_ ?_ ?_ (fun k hk hne => h2.block k hk hne)
    · unfold OwnRows
      simpa using h1
    · refine (Below.refl base w).grown h2 hbase ?_
      intro k hk
      exact (World.ownsRow.lt hown k hk).1
    · rcases h3 with h3 | rfl
      · exact (World.ownsRow.lt hown g h3).1
      · exact hbase
theorem lit_rows {α : Type} {enc : α → List Value} {z : Nat} (hz : ∀ c, (enc c).length = z) (l : List α) (w : World) (T : TypeId) : RowsAt enc z (w.alloc (.cells (l.flatMap enc).toArray T)) (some ⟨w.heap.size, 0, none⟩) l.length l :=
  ⟨rfl, fun i c hi => ⟨w.heap.size, 0, rfl, by simp, fun j v hj => by
    have h := cell_box w (l.flatMap enc).toArray T (i * z + j) v (by simpa using flat_get hz l i j c v hi hj)
    rw [show 0 + i * z + j = i * z + j by omega]; exact h⟩⟩
theorem tre_lit {w : World} (t : Tre) (T : TypeId) : RowsAt cellsT 7 (w.alloc (.cells #[.int .i64 t.kind, .int .i64 t.part, .int .i64 t.above, .int .i64 t.most, .int .i64 t.times, .int .i64 t.price, .int .i64 t.off] T)) (some ⟨w.heap.size, 0, none⟩) 1 [t] := lit_rows cellsT_len [t] w T
theorem take_snoc {α : Type} {l : List α} {k : Nat} {a : α} (h : l[k]? = some a) : l.take (k + 1) = l.take k ++ [a] := by rw [List.take_add_one, h]; rfl
def ProgPost (p : Prg) (ln tn rn : Nat) (w : World) : Ending → World → Prop := fun e w' => ∃ lq lc tq tc rq rc, e = .returned (.agg #[.slice lq ln lc, .int .i64 p.reserve, .slice tq tn tc, .slice rq rn rc]) ∧ PrgAt w' p lq ln tq tn rq rn ∧ rn ≤ rc ∧ Below w.heap.size w w'

set_option maxRecDepth 40000 in
set_option maxHeartbeats 16000000 in
theorem prog_any (p : Prg) (lp : Option Addr) (ln lc : Nat) (tp : Option Addr) (tn tc : Nat) (rp : Option Addr) (rn rc : Nat) (w : World) (hp : PrgAt w p lp ln tp tn rp rn) (hln : ln ≤ 1000) (htn : tn ≤ 1000) (hrn : rn ≤ 1000) : Calls Try.prog 21 #[.agg #[.slice lp ln lc, .int .i64 p.reserve, .slice tp tn tc, .slice rp rn rc]] w (ProgPost p ln tn rn w) := by
  have HPL := hid hp.l; have HPT := hid hp.t; have HPR := hid hp.r
  have HLL := hid hp.l.1; have HTL := hid hp.t.1; have HRL := hid hp.r.1
  clear hp
  obtain ⟨W0, hW0⟩ : ∃ V, (w.alloc (.cells #[.slice lp ln lc, .int .i64 p.reserve, .slice tp tn tc, .slice rp rn rc] 26)).alloc (.cells #[.slice none 0 0, .int .i64 0, .slice none 0 0, .slice none 0 0] 37) = V := ⟨_, rfl⟩
  have HZ0 : Hid (W0.heap.size = w.heap.size + 2) := hid (by rw [← hW0]; simp)
  have HB0 : Hid (Boxed1 w #[.slice lp ln lc, .int .i64 p.reserve, .slice tp tn tc, .slice rp rn rc] 26 W0) := hid (by rw [← hW0]; exact (Boxed1.start _ _ _).alloc _)
  have HO0 : Hid (BoxIs (w.heap.size + 1) #[.slice none 0 0, .int .i64 0, .slice none 0 0, .slice none 0 0] W0) := hid (by have h := BoxIs.start (w.alloc (.cells #[.slice lp ln lc, .int .i64 p.reserve, .slice tp tn tc, .slice rp rn rc] 26)) #[.slice none 0 0, .int .i64 0, .slice none 0 0, .slice none 0 0] 37; rw [World.size_alloc, hW0] at h; exact h)
  have e1 := HB0.out.cell 1 (v := .int .i64 p.reserve) rfl
  go_enter Try.func21, Try.ntmps21
  go_upto_region 2 with fail
  obtain ⟨W1, hW1⟩ : ∃ V, W0.alloc (.cells #[.slice none 0 0, .int .i64 p.reserve, .slice none 0 0, .slice none 0 0] 37) = V := ⟨_, rfl⟩
  rw [hW1]
  have HX1 : Hid (BoxIs (w.heap.size + 2) #[.slice none 0 0, .int .i64 p.reserve, .slice none 0 0, .slice none 0 0] W1) := hid (by have h := BoxIs.start W0 #[.slice none 0 0, .int .i64 p.reserve, .slice none 0 0, .slice none 0 0] 37; rw [hW1, HZ0.out] at h; exact h)
  have hba : Below W0.heap.size W0 W1 := by rw [← hW1]; exact (Below.refl _ _).alloc (Nat.le_refl _) _
  have HB1 := hid (HB0.out.step hba); have HO1 := hid (HO0.out.below hba)
  have HZ1 : Hid (w.heap.size + 3 ≤ W1.heap.size) := hid HX1.out.1
  rw [HZ0.out]
  clear hW0 hW1 e1 hba HB0 HO0 HZ0
  go_wp2_with fail
  go_loopw [4] (fun i wr => ∃ k : Nat, k ≤ ln ∧ i = .int .i64 k ∧ (∃ q m d, BoxIs (w.heap.size + 2) #[.slice q m d, .int .i64 p.reserve, .slice none 0 0, .slice none 0 0] wr ∧ OwnRows cellsR 2 51 wr W1.heap.size (.slice q m d) (p.losses.take k)) ∧ Near (fun i => i = (w.heap.size + 2)) W1 wr) (fun i _ => ln - (intOf i).toNat)
  case atStart => exact ⟨0, by omega, rfl, ⟨none, 0, 0, HX1.out, ownRows_nil _ _ _ _ _⟩, Near.refl _ _⟩
  case round =>
    obtain ⟨k, hk, rfl, ⟨q9, m9, d9, hx, hv⟩, hn⟩ := hrel
    have hbw : Below (w.heap.size + 1) W1 wr := hn.below (by have := HZ1.out; omega) (fun i hi => by omega)
    have HXr := hid hx; have HVr := hid hv; have HNr := hid hn
    have HBr := hid (HB1.out.step' hbw)
    have HOr := hid (HO1.out.far hn (by omega))
    have HZr : Hid (W1.heap.size ≤ wr.heap.size) := hid hn.size
    clear hx hv hn hbw
    have e0 := HBr.out.cell 0 (v := .slice lp ln lc) rfl
    by_cases hlt : k < ln
    · skip
      obtain ⟨r, hx7, b1, o1, rfl, hlt1, c0, c1⟩ := (HPL.out.below HBr.out.below).rng hlt
      have HTS := hid (take_snoc hx7)
      have HLE : Hid ((p.losses.take k).length = k) := hid (List.length_take_of_le (by have := HLL.out; omega))
      have HCV : Hid (∀ V, Boxed1 w #[.slice (some ⟨b1, o1, none⟩) ln lc, .int .i64 p.reserve, .slice tp tn tc, .slice rp rn rc] 26 V → ∀ i v, (cellsR r)[i]? = some v → V.cell? ⟨b1, o1 + k * 2 + i, none⟩ = some v) := hid (fun V hV i v hi => by
        obtain ⟨x9, hx9, b2, o2, e2, hl2, hc2⟩ := (HPL.out.below hV.below).at hlt
        cases e2
        rw [hx7] at hx9; cases hx9
        exact hc2 i v hi)
      clear hx7 c0 c1
      have hw9 : IntKind.i64.wrap ((k : Int) + 1) = (k : Int) + 1 := IntWalk.i64_in _ (by omega)
      go_upto_region 5 with fail
      clear e0 hw9
      refine wp_region_listed (S := fun l V => Boxed1 w #[.slice (some ⟨b1, o1, none⟩) ln lc, .int .i64 p.reserve, .slice tp tn tc, .slice rp rn rc] 26 V ∧ (l.getD 11 true = false → V.cell? ⟨w.heap.size + 2, 0, none⟩ = some (.slice q9 m9 d9))) (by kernel_rfl) (⟨HBr.out.drew, fun _ => ((HXr.out.below (Below.refl _ _).drew).2 0 (.slice q9 m9 d9) rfl).1⟩) (fun hS => ?_)
      simp only [List.size_toArray, List.length_cons, List.length_nil, Nat.reduceAdd, Array.replicate_succ, Array.replicate_zero, List.push_toArray, List.nil_append, List.cons_append]
      have hbd : Below wr.heap.size wr wr.drew := (Below.refl _ _).drew
      replace HXr := hid (HXr.out.below hbd); replace HVr := hid (HVr.out.below hbd); replace HNr := hid (HNr.out.trans (near_below hbd)); replace HBr := hid (HBr.out.step hbd)
      generalize wr.drew = Wd at HXr HVr HNr HBr hS ⊢
      clear hbd
      refine anyL_take [] (i := 0) (v := ?_) rfl (by kernel_rfl) (by kernel_rfl) (by kernel_rfl) (fun _ _ _ h => h) (by kernel_rfl) (by kernel_rfl) (fun _ _ => and_congr Iff.rfl (imp_congr (getD_set_iff (by decide)) Iff.rfl)) (Or.inl ⟨by rfl, fun V hV => ?_⟩) (by assumption) ?_
      rotate_left
      · go_simp
        try with_reducible rfl
      try simp only [Act.put, List.getElem_toArray, List.getElem_cons_zero, List.setIfInBounds_toArray, List.set_cons_zero, List.set_cons_succ]
      refine anyL_take [11] (i := 1) (v := ?_) rfl (by kernel_rfl) (by kernel_rfl) (by kernel_rfl) (fun _ _ _ h => h) (by kernel_rfl) (by kernel_rfl) (fun _ _ => and_congr Iff.rfl (imp_congr (getD_set_iff (by decide)) Iff.rfl)) (Or.inl ⟨by rfl, fun V hV => ?_⟩) (by assumption) ?_
      rotate_left
      · obtain ⟨l, hn, hV⟩ := hV; have k0 := hV.2 (hn 11 (by simp)); go_simp
        try with_reducible rfl
      try simp only [Act.put, List.getElem_toArray, List.getElem_cons_zero, List.getElem_cons_succ, List.setIfInBounds_toArray, List.set_cons_zero, List.set_cons_succ]
      refine anyL_take [] (i := 2) (v := ?_) rfl (by kernel_rfl) (by kernel_rfl) (by kernel_rfl) (fun _ _ _ h => h) (by kernel_rfl) (by kernel_rfl) (fun _ _ => and_congr Iff.rfl (imp_congr (getD_set_iff (by decide)) Iff.rfl)) (Or.inl ⟨by rfl, fun V hV => ?_⟩) (by assumption) ?_
      rotate_left
      · go_simp
        try with_reducible rfl
      try simp only [Act.put, List.getElem_toArray, List.getElem_cons_zero, List.getElem_cons_succ, List.setIfInBounds_toArray, List.set_cons_zero, List.set_cons_succ]
      refine anyL_take [] (i := 3) (v := ?_) rfl (by kernel_rfl) (by kernel_rfl) (by kernel_rfl) (fun _ _ _ h => h) (by kernel_rfl) (by kernel_rfl) (fun _ _ => and_congr Iff.rfl (imp_congr (getD_set_iff (by decide)) Iff.rfl)) (Or.inl ⟨by rfl, fun V hV => ?_⟩) (by assumption) ?_
      rotate_left
      · obtain ⟨l, hn, hV⟩ := hV; have e0 := hV.1.cell 0 (v := .slice (some ⟨b1, o1, none⟩) ln lc) rfl; go_simp
        try with_reducible rfl
      try simp only [Act.put, List.getElem_toArray, List.getElem_cons_zero, List.getElem_cons_succ, List.setIfInBounds_toArray, List.set_cons_zero, List.set_cons_succ]
      refine anyL_take [] (i := 4) (v := ?_) rfl (by kernel_rfl) (by kernel_rfl) (by kernel_rfl) (fun _ _ _ h => h) (by kernel_rfl) (by kernel_rfl) (fun _ _ => and_congr Iff.rfl (imp_congr (getD_set_iff (by decide)) Iff.rfl)) (Or.inl ⟨by rfl, fun V hV => ?_⟩) (by assumption) ?_
      rotate_left
      · go_simp
        try with_reducible rfl
      try simp only [Act.put, List.getElem_toArray, List.getElem_cons_zero, List.getElem_cons_succ, List.setIfInBounds_toArray, List.set_cons_zero, List.set_cons_succ]
      refine anyL_take [] (i := 5) (v := ?_) rfl (by kernel_rfl) (by kernel_rfl) (by kernel_rfl) (fun _ _ _ h => h) (by kernel_rfl) (by kernel_rfl) (fun _ _ => and_congr Iff.rfl (imp_congr (getD_set_iff (by decide)) Iff.rfl)) (Or.inl ⟨by rfl, fun V hV => ?_⟩) (by assumption) ?_
      rotate_left
      · go_simp
        try with_reducible rfl
      try simp only [Act.put, List.getElem_toArray, List.getElem_cons_zero, List.getElem_cons_succ, List.setIfInBounds_toArray, List.set_cons_zero, List.set_cons_succ]
      refine anyL_take [] (i := 6) (v := ?_) rfl (by kernel_rfl) (by kernel_rfl) (by kernel_rfl) (fun _ _ _ h => h) (by kernel_rfl) (by kernel_rfl) (fun _ _ => and_congr Iff.rfl (imp_congr (getD_set_iff (by decide)) Iff.rfl)) (Or.inl ⟨by rfl, fun V hV => ?_⟩) (by assumption) ?_
      rotate_left
      · obtain ⟨l, hn, hV⟩ := hV; have d0 := HCV.out V hV.1 0 _ rfl; have d1 := HCV.out V hV.1 1 _ rfl; rw [Nat.add_zero] at d0; go_simp
        try with_reducible rfl
      try simp only [Act.put, List.getElem_toArray, List.getElem_cons_zero, List.getElem_cons_succ, List.setIfInBounds_toArray, List.set_cons_zero, List.set_cons_succ]
      refine anyL_one (i := 7) (o := _) (by kernel_rfl) rfl (fun K hK => ?_)
      go_simp
      (with_reducible refine (to_any r _).mono ?_)
      rintro e v7 ⟨rfl, hb⟩
      replace HXr := hid (HXr.out.below hb); replace HVr := hid (HVr.out.below hb); replace HNr := hid (HNr.out.trans (near_below hb)); replace HBr := hid (HBr.out.step hb)
      clear hS hb
      refine hK.out _ _ (⟨HBr.out, fun _ => (HXr.out.2 0 (.slice q9 m9 d9) rfl).1⟩) (fun hS => ?_)
      clear hK K
      try simp only [List.setIfInBounds_toArray, List.set_cons_zero, List.set_cons_succ]
      refine anyL_one (i := 8) (o := _) (by kernel_rfl) rfl (fun K hK => ?_)
      obtain ⟨v8, hv8⟩ : ∃ V, v7.alloc (.cells (cellsR r).toArray 51) = V := ⟨_, rfl⟩
      have hb : Below v7.heap.size v7 v8 := by rw [← hv8]; exact (Below.refl _ _).alloc (Nat.le_refl _) _
      have HLT : Hid (∀ j u, (cellsR r)[j]? = some u → v8.cell? ⟨v7.heap.size, j, none⟩ = some u) := hid (fun j u hj => by rw [← hv8]; exact cell_box v7 _ 51 j u (by simpa using hj))
      replace HXr := hid (HXr.out.below hb); replace HVr := hid (HVr.out.below hb); replace HNr := hid (HNr.out.trans (near_below hb)); replace HBr := hid (HBr.out.step hb)
      clear hS hb
      unfold cellsR at hv8
      go_simp
      clear hv8
      refine hK.out _ _ (⟨HBr.out, fun _ => (HXr.out.2 0 (.slice q9 m9 d9) rfl).1⟩) (fun hS => ?_)
      clear hK K
      try simp only [List.setIfInBounds_toArray, List.set_cons_zero, List.set_cons_succ]
      refine anyL_one (i := 9) (o := _) (by kernel_rfl) rfl (fun K hK => ?_)
      refine step_append_row cellsR_len (by decide) cellsR_one 33 51 _ 16 (by decide) Try.info51 rfl Try.und33 (by rfl) (.tmp 19) (.tmp 26) (by rfl) W1.heap.size (.slice q9 m9 d9) (p.losses.take k) r v7.heap.size HVr.out rfl rfl HLT.out (by rw [HLE.out]; omega) HNr.out.size ?_
      intro g9 cap9 v15 h15 hb15 hg15 hk15
      rw [HLE.out] at h15 ⊢
      rw [← HTS.out] at h15
      have HV5 := hid h15; have HX5 := hid (HXr.out.keep hb15 (by have := HZ1.out; omega)); have HN5 := hid (HNr.out.trans' (Near.of_below (S := fun i => W1.heap.size ≤ i) hb15 (fun i h1 h2 => h2)) (fun i h1 h2 => by omega)); have HB5 := hid (HBr.out.step' (hb15.mono (by have := HZ1.out; omega)))
      clear hS h15 hb15 hk15
      refine hK.out _ _ (⟨HB5.out, fun _ => (HX5.out.2 0 (.slice q9 m9 d9) rfl).1⟩) (fun hS => ?_)
      clear hK K
      try simp only [Act.put, List.getElem_toArray, List.getElem_cons_zero, List.getElem_cons_succ, List.setIfInBounds_toArray, List.set_cons_zero, List.set_cons_succ]
      refine anyL_take [] (i := 10) (v := ?_) rfl (by kernel_rfl) (by kernel_rfl) (by kernel_rfl) (fun _ _ _ h => h) (by kernel_rfl) (by kernel_rfl) (fun _ _ => and_congr Iff.rfl (imp_congr (getD_set_iff (by decide)) Iff.rfl)) (Or.inl ⟨by rfl, fun V hV => ?_⟩) (by assumption) ?_
      rotate_left
      · go_simp
        try with_reducible rfl
      try simp only [Act.put, List.getElem_toArray, List.getElem_cons_zero, List.getElem_cons_succ, List.setIfInBounds_toArray, List.set_cons_zero, List.set_cons_succ]
      refine anyL_one (i := 11) (o := _) (by kernel_rfl) rfl (fun K hK => ?_)
      have k0 := (HX5.out.2 0 (.slice q9 m9 d9) rfl).1; have k1 := (HX5.out.2 0 (.slice q9 m9 d9) rfl).2
      have HX7 := hid (HX5.out.put (j := 0) (.slice (some ⟨g9, 0, none⟩) (k + 1) cap9))
      have hn7 := (Near.refl (fun i => i = (w.heap.size + 2)) v15).setCell (p := ⟨w.heap.size + 2, 0, none⟩) (fun _ => rfl) (.slice (some ⟨g9, 0, none⟩) (k + 1) cap9)
      have HB7 := hid (HB5.out.step' (hn7.below (B := w.heap.size + 1) HB5.out.size (fun i h1 h2 => by omega)))
      have HV7 := hid (HV5.out.near hn7 (fun i h => by have := HZ1.out; omega))
      have HN7 := hid (HN5.out.trans hn7)
      clear hn7 hS
      go_simp
      clear k0 k1
      refine hK.out _ _ (⟨HB7.out, fun h => absurd h (by decide)⟩) (fun hS => ?_)
      clear hK K
      try simp only [List.setIfInBounds_toArray, List.set_cons_zero, List.set_cons_succ]
      refine anyL_done (by kernel_rfl) ?_ _
      clear hS
      go_wp2_with fail
      go_roundw
      case rel => exact ⟨k + 1, by omega, by go_num, ⟨_, _, _, HX7.out, HV7.out⟩, HN7.out⟩
      case measure => simp [intOf]; omega
    · skip
      have hkn : ln = k := by omega
      subst hkn
      have HTK : Hid (p.losses.take ln = p.losses) := hid (List.take_of_length_le (by have := HLL.out; omega))
      rw [HTK.out] at HVr
      clear HTK
      obtain ⟨q1, d1, e11, hr1⟩ := HVr.out.slice cellsR_len
      have HLQ : Hid (m9 = ln) := hid (by injection e11 with _ a _; rw [a]; exact HLL.out.symm)
      clear e11 hr1 q1 d1
      rw [HLQ.out] at HXr HVr
      clear HLQ
      have HR1 := hid (HVr.out.mono (base' := w.heap.size + 3) HZ1.out)
      obtain ⟨W2, hW⟩ : ∃ W, W = wr := ⟨_, rfl⟩
      subst hW
      skip
      obtain ⟨q1, hq⟩ : ∃ q, q = q9 := ⟨_, rfl⟩; subst hq
      obtain ⟨d1, hd⟩ : ∃ d, d = d9 := ⟨_, rfl⟩; subst hd
      have HX2 := HXr; have HB2 := HBr; have HO2 := HOr; have HZ2 : Hid (w.heap.size + 3 ≤ W2.heap.size) := hid HXr.out.1
      clear HXr HVr HBr HOr HNr HZr 
      go_wp2_with fail
      clear e0 hlt
      go_loopw [5] (fun i wr => ∃ k : Nat, k ≤ tn ∧ i = .int .i64 k ∧ (∃ q m d, BoxIs (w.heap.size + 2) #[.slice q1 ln d1, .int .i64 p.reserve, .slice q m d, .slice none 0 0] wr ∧ OwnRows cellsT 7 87 wr W2.heap.size (.slice q m d) (p.ts.take k)) ∧ Near (fun i => i = (w.heap.size + 2)) W2 wr) (fun i _ => tn - (intOf i).toNat)
      case atStart => exact ⟨0, by omega, rfl, ⟨none, 0, 0, HX2.out, ownRows_nil _ _ _ _ _⟩, Near.refl _ _⟩
      case round =>
        obtain ⟨k, hk, rfl, ⟨q9, m9, d9, hx, hv⟩, hn⟩ := hrel
        have hbw : Below (w.heap.size + 1) W2 wr := hn.below (by have := HZ2.out; omega) (fun i hi => by omega)
        have HXr := hid hx; have HVr := hid hv; have HNr := hid hn
        have HBr := hid (HB2.out.step' hbw)
        have HOr := hid (HO2.out.far hn (by omega))
        have HZr : Hid (W2.heap.size ≤ wr.heap.size) := hid hn.size
        clear hx hv hn hbw
        have e2 := HBr.out.cell 2 (v := .slice tp tn tc) rfl
        by_cases hlt : k < tn
        · skip
          obtain ⟨t, hx7, b1, o1, rfl, hlt1, c0, c1, c2, c3, c4, c5, c6⟩ := (HPT.out.below HBr.out.below).tre hlt
          have HTS := hid (take_snoc hx7)
          have HLE : Hid ((p.ts.take k).length = k) := hid (List.length_take_of_le (by have := HTL.out; omega))
          clear hx7
          obtain ⟨w4, hw4⟩ : ∃ V, wr.alloc (.cells #[.int .i64 t.kind, .int .i64 t.part, .int .i64 t.above, .int .i64 t.most, .int .i64 t.times, .int .i64 t.price, .int .i64 t.off] 94) = V := ⟨_, rfl⟩
          have hb : Below wr.heap.size wr w4 := by rw [← hw4]; exact (Below.refl _ _).alloc (Nat.le_refl _) _
          have HT4 : Hid (BoxIs wr.heap.size #[.int .i64 t.kind, .int .i64 t.part, .int .i64 t.above, .int .i64 t.most, .int .i64 t.times, .int .i64 t.price, .int .i64 t.off] w4) := hid (by rw [← hw4]; exact BoxIs.start _ _ _)
          replace HXr := hid (HXr.out.below hb); replace HVr := hid (HVr.out.below hb); replace HNr := hid (HNr.out.trans (near_below hb)); replace HBr := hid (HBr.out.step hb)
          clear hb
          have hw9 : IntKind.i64.wrap ((k : Int) + 1) = (k : Int) + 1 := IntWalk.i64_in _ (by omega)
          go_upto_region 10 with fail
          clear hw4 c0 c1 c2 c3 c4 c5 c6 e2
          have c0 := (HT4.out.2 0 (.int .i64 t.kind) rfl).1; have c1 := (HT4.out.2 1 (.int .i64 t.part) rfl).1; have c2 := (HT4.out.2 2 (.int .i64 t.above) rfl).1; have c3 := (HT4.out.2 3 (.int .i64 t.most) rfl).1; have c4 := (HT4.out.2 4 (.int .i64 t.times) rfl).1; have c5 := (HT4.out.2 5 (.int .i64 t.price) rfl).1; have c6 := (HT4.out.2 6 (.int .i64 t.off) rfl).1
          have k0 := (HXr.out.2 2 (.slice q9 m9 d9) rfl).1
          have hb : Below w4.heap.size w4 (w4.alloc (.cells #[.int .i64 t.kind, .int .i64 t.part, .int .i64 t.above, .int .i64 t.most, .int .i64 t.times, .int .i64 t.price, .int .i64 t.off] 87)) := (Below.refl _ _).alloc (Nat.le_refl _) _
          have ho3 := HVr.out.below hb; have hx3 := HXr.out.below hb; have hn3 := HNr.out.trans (near_below (S := fun i => i = (w.heap.size + 2)) hb); have HB3 := HBr.out.step hb
          have hz3 : W2.heap.size ≤ w4.heap.size + 1 := by have := HNr.out.size; omega
          go_wp2_with (at_builtin; refine append_rows cellsT_len (by decide) cellsT_one 34 87 _ 56 (by decide) Try.info87 rfl Try.und34 (by rfl) _ _ (by rfl) W2.heap.size _ _ _ 1 1 [t] ho3 (by rfl) (by rfl) (tre_lit t 87) (by rw [HLE.out]; omega) (by omega) (by rw [World.size_alloc]; exact hz3) ?_; intro v' w' h1 h2 h3; rw [← HTS.out] at h1; obtain ⟨q8, d8, rfl, hr8⟩ := h1.slice cellsT_len; clear hr8; have HV5 := hid h1; have HX5 := hid (hx3.keep h2 (by have := HZ2.out; omega)); have HN5 := hid (hn3.trans' (Near.of_below (S := fun i => W2.heap.size ≤ i) h2 (fun i h1 h2 => h2)) (fun i h1 h2 => by omega)); clear h1 h2 h3; obtain ⟨m8, hm8⟩ : ∃ m, (p.ts.take (k + 1)).length = m := ⟨_, rfl⟩; rw [hm8] at HV5 ⊢; clear hm8 c0 c1 c2 c3 c4 c5 c6 k0; have k0 := (HX5.out.2 2 (.slice q9 m9 d9) rfl).1; have k1 := (HX5.out.2 2 (.slice q9 m9 d9) rfl).2)
          have HX7 := hid (HX5.out.put (j := 2) (.slice q8 m8 d8))
          have hn7 := (Near.refl (fun i => i = (w.heap.size + 2)) w').setCell (p := ⟨w.heap.size + 2, 2, none⟩) (fun _ => rfl) (.slice q8 m8 d8)
          have HV7 := hid (HV5.out.near hn7 (fun i h => by have := HZ2.out; omega))
          have HN7 := hid (HN5.out.trans hn7)
          clear hn7 k0 k1
          go_roundw
          case rel => exact ⟨k + 1, by omega, by go_num, ⟨_, _, _, HX7.out, HV7.out⟩, HN7.out⟩
          case measure => simp [intOf]; omega
        · skip
          have hkn : tn = k := by omega
          subst hkn
          have HTK : Hid (p.ts.take tn = p.ts) := hid (List.take_of_length_le (by have := HTL.out; omega))
          rw [HTK.out] at HVr
          clear HTK
          obtain ⟨q2, d2, e22, hr2⟩ := HVr.out.slice cellsT_len
          have HLQ : Hid (m9 = tn) := hid (by injection e22 with _ a _; rw [a]; exact HTL.out.symm)
          clear e22 hr2 q2 d2
          rw [HLQ.out] at HXr HVr
          clear HLQ
          have HR2 := hid (HVr.out.mono (base' := w.heap.size + 3) HZ2.out)
          have HR1r := hid (HR1.out.near HNr.out (fun k h => by omega))
          obtain ⟨W3, hW⟩ : ∃ W, W = wr := ⟨_, rfl⟩
          subst hW
          skip
          obtain ⟨q2, hq⟩ : ∃ q, q = q9 := ⟨_, rfl⟩; subst hq
          obtain ⟨d2, hd⟩ : ∃ d, d = d9 := ⟨_, rfl⟩; subst hd
          have HX3 := HXr; have HB3 := HBr; have HO3 := HOr; have HZ3 : Hid (w.heap.size + 3 ≤ W3.heap.size) := hid HXr.out.1
          replace HR1 := HR1r
          clear HXr HVr HBr HOr HNr HZr HR1r
          go_wp2_with fail
          clear e2 hlt
          go_loopw [7] (fun i wr => ∃ k : Nat, k ≤ rn ∧ i = .int .i64 k ∧ (∃ q m d, BoxIs (w.heap.size + 2) #[.slice q1 ln d1, .int .i64 p.reserve, .slice q2 tn d2, .slice q m d] wr ∧ OwnRows cellsE 3 89 wr W3.heap.size (.slice q m d) (p.reps.take k)) ∧ Near (fun i => i = (w.heap.size + 2)) W3 wr) (fun i _ => rn - (intOf i).toNat)
          case atStart => exact ⟨0, by omega, rfl, ⟨none, 0, 0, HX3.out, ownRows_nil _ _ _ _ _⟩, Near.refl _ _⟩
          case round =>
            obtain ⟨k, hk, rfl, ⟨q9, m9, d9, hx, hv⟩, hn⟩ := hrel
            have hbw : Below (w.heap.size + 1) W3 wr := hn.below (by have := HZ3.out; omega) (fun i hi => by omega)
            have HXr := hid hx; have HVr := hid hv; have HNr := hid hn
            have HBr := hid (HB3.out.step' hbw)
            have HOr := hid (HO3.out.far hn (by omega))
            have HZr : Hid (W3.heap.size ≤ wr.heap.size) := hid hn.size
            clear hx hv hn hbw
            have e3 := HBr.out.cell 3 (v := .slice rp rn rc) rfl
            by_cases hlt : k < rn
            · skip
              obtain ⟨x, hx7, b1, o1, rfl, hlt1, c0, c1, c2⟩ := (HPR.out.below HBr.out.below).rep hlt
              have HTS := hid (take_snoc hx7)
              have HLE : Hid ((p.reps.take k).length = k) := hid (List.length_take_of_le (by have := HRL.out; omega))
              have HCV : Hid (∀ V, Boxed1 w #[.slice lp ln lc, .int .i64 p.reserve, .slice tp tn tc, .slice (some ⟨b1, o1, none⟩) rn rc] 26 V → ∀ i v, (cellsE x)[i]? = some v → V.cell? ⟨b1, o1 + k * 3 + i, none⟩ = some v) := hid (fun V hV i v hi => by
                obtain ⟨x9, hx9, b2, o2, e2, hl2, hc2⟩ := (HPR.out.below hV.below).at hlt
                cases e2
                rw [hx7] at hx9; cases hx9
                exact hc2 i v hi)
              clear hx7 c0 c1 c2
              have hw9 : IntKind.i64.wrap ((k : Int) + 1) = (k : Int) + 1 := IntWalk.i64_in _ (by omega)
              go_upto_region 14 with fail
              clear e3 hw9
              refine wp_region_listed (S := fun l V => Boxed1 w #[.slice lp ln lc, .int .i64 p.reserve, .slice tp tn tc, .slice (some ⟨b1, o1, none⟩) rn rc] 26 V ∧ (l.getD 19 true = false → V.cell? ⟨w.heap.size + 2, 3, none⟩ = some (.slice q9 m9 d9))) (by kernel_rfl) (⟨HBr.out.drew, fun _ => ((HXr.out.below (Below.refl _ _).drew).2 3 (.slice q9 m9 d9) rfl).1⟩) (fun hS => ?_)
              simp only [List.size_toArray, List.length_cons, List.length_nil, Nat.reduceAdd, Array.replicate_succ, Array.replicate_zero, List.push_toArray, List.nil_append, List.cons_append]
              have hbd : Below wr.heap.size wr wr.drew := (Below.refl _ _).drew
              replace HXr := hid (HXr.out.below hbd); replace HVr := hid (HVr.out.below hbd); replace HNr := hid (HNr.out.trans (near_below hbd)); replace HBr := hid (HBr.out.step hbd)
              generalize wr.drew = Wd at HXr HVr HNr HBr hS ⊢
              clear hbd
              refine anyL_take [] (i := 0) (v := ?_) rfl (by kernel_rfl) (by kernel_rfl) (by kernel_rfl) (fun _ _ _ h => h) (by kernel_rfl) (by kernel_rfl) (fun _ _ => and_congr Iff.rfl (imp_congr (getD_set_iff (by decide)) Iff.rfl)) (Or.inl ⟨by rfl, fun V hV => ?_⟩) (by assumption) ?_
              rotate_left
              · go_simp
                try with_reducible rfl
              try simp only [Act.put, List.getElem_toArray, List.getElem_cons_zero, List.setIfInBounds_toArray, List.set_cons_zero, List.set_cons_succ]
              refine anyL_take [19] (i := 1) (v := ?_) rfl (by kernel_rfl) (by kernel_rfl) (by kernel_rfl) (fun _ _ _ h => h) (by kernel_rfl) (by kernel_rfl) (fun _ _ => and_congr Iff.rfl (imp_congr (getD_set_iff (by decide)) Iff.rfl)) (Or.inl ⟨by rfl, fun V hV => ?_⟩) (by assumption) ?_
              rotate_left
              · obtain ⟨l, hn, hV⟩ := hV; have k0 := hV.2 (hn 19 (by simp)); go_simp
                try with_reducible rfl
              try simp only [Act.put, List.getElem_toArray, List.getElem_cons_zero, List.getElem_cons_succ, List.setIfInBounds_toArray, List.set_cons_zero, List.set_cons_succ]
              refine anyL_take [] (i := 2) (v := ?_) rfl (by kernel_rfl) (by kernel_rfl) (by kernel_rfl) (fun _ _ _ h => h) (by kernel_rfl) (by kernel_rfl) (fun _ _ => and_congr Iff.rfl (imp_congr (getD_set_iff (by decide)) Iff.rfl)) (Or.inl ⟨by rfl, fun V hV => ?_⟩) (by assumption) ?_
              rotate_left
              · go_simp
                try with_reducible rfl
              try simp only [Act.put, List.getElem_toArray, List.getElem_cons_zero, List.getElem_cons_succ, List.setIfInBounds_toArray, List.set_cons_zero, List.set_cons_succ]
              refine anyL_take [] (i := 3) (v := ?_) rfl (by kernel_rfl) (by kernel_rfl) (by kernel_rfl) (fun _ _ _ h => h) (by kernel_rfl) (by kernel_rfl) (fun _ _ => and_congr Iff.rfl (imp_congr (getD_set_iff (by decide)) Iff.rfl)) (Or.inl ⟨by rfl, fun V hV => ?_⟩) (by assumption) ?_
              rotate_left
              · obtain ⟨l, hn, hV⟩ := hV; have e0 := hV.1.cell 3 (v := .slice (some ⟨b1, o1, none⟩) rn rc) rfl; go_simp
                try with_reducible rfl
              try simp only [Act.put, List.getElem_toArray, List.getElem_cons_zero, List.getElem_cons_succ, List.setIfInBounds_toArray, List.set_cons_zero, List.set_cons_succ]
              refine anyL_take [] (i := 4) (v := ?_) rfl (by kernel_rfl) (by kernel_rfl) (by kernel_rfl) (fun _ _ _ h => h) (by kernel_rfl) (by kernel_rfl) (fun _ _ => and_congr Iff.rfl (imp_congr (getD_set_iff (by decide)) Iff.rfl)) (Or.inl ⟨by rfl, fun V hV => ?_⟩) (by assumption) ?_
              rotate_left
              · go_simp
                try with_reducible rfl
              try simp only [Act.put, List.getElem_toArray, List.getElem_cons_zero, List.getElem_cons_succ, List.setIfInBounds_toArray, List.set_cons_zero, List.set_cons_succ]
              refine anyL_take [] (i := 5) (v := ?_) rfl (by kernel_rfl) (by kernel_rfl) (by kernel_rfl) (fun _ _ _ h => h) (by kernel_rfl) (by kernel_rfl) (fun _ _ => and_congr Iff.rfl (imp_congr (getD_set_iff (by decide)) Iff.rfl)) (Or.inl ⟨by rfl, fun V hV => ?_⟩) (by assumption) ?_
              rotate_left
              · go_simp
                try with_reducible rfl
              try simp only [Act.put, List.getElem_toArray, List.getElem_cons_zero, List.getElem_cons_succ, List.setIfInBounds_toArray, List.set_cons_zero, List.set_cons_succ]
              refine anyL_take [] (i := 6) (v := ?_) rfl (by kernel_rfl) (by kernel_rfl) (by kernel_rfl) (fun _ _ _ h => h) (by kernel_rfl) (by kernel_rfl) (fun _ _ => and_congr Iff.rfl (imp_congr (getD_set_iff (by decide)) Iff.rfl)) (Or.inl ⟨by rfl, fun V hV => ?_⟩) (by assumption) ?_
              rotate_left
              · go_simp
                try with_reducible rfl
              try simp only [Act.put, List.getElem_toArray, List.getElem_cons_zero, List.getElem_cons_succ, List.setIfInBounds_toArray, List.set_cons_zero, List.set_cons_succ]
              refine anyL_take [] (i := 7) (v := ?_) rfl (by kernel_rfl) (by kernel_rfl) (by kernel_rfl) (fun _ _ _ h => h) (by kernel_rfl) (by kernel_rfl) (fun _ _ => and_congr Iff.rfl (imp_congr (getD_set_iff (by decide)) Iff.rfl)) (Or.inl ⟨by rfl, fun V hV => ?_⟩) (by assumption) ?_
              rotate_left
              · obtain ⟨l, hn, hV⟩ := hV; have d0 := HCV.out V hV.1 0 _ rfl; have d1 := HCV.out V hV.1 1 _ rfl; have d2 := HCV.out V hV.1 2 _ rfl; rw [Nat.add_zero] at d0; go_simp
                try with_reducible rfl
              try simp only [Act.put, List.getElem_toArray, List.getElem_cons_zero, List.getElem_cons_succ, List.setIfInBounds_toArray, List.set_cons_zero, List.set_cons_succ]
              refine anyL_take [] (i := 8) (v := ?_) rfl (by kernel_rfl) (by kernel_rfl) (by kernel_rfl) (fun _ _ _ h => h) (by kernel_rfl) (by kernel_rfl) (fun _ _ => and_congr Iff.rfl (imp_congr (getD_set_iff (by decide)) Iff.rfl)) (Or.inl ⟨by rfl, fun V hV => ?_⟩) (by assumption) ?_
              rotate_left
              · go_simp
                try with_reducible rfl
              try simp only [Act.put, List.getElem_toArray, List.getElem_cons_zero, List.getElem_cons_succ, List.setIfInBounds_toArray, List.set_cons_zero, List.set_cons_succ]
              refine anyL_take [] (i := 9) (v := ?_) rfl (by kernel_rfl) (by kernel_rfl) (by kernel_rfl) (fun _ _ _ h => h) (by kernel_rfl) (by kernel_rfl) (fun _ _ => and_congr Iff.rfl (imp_congr (getD_set_iff (by decide)) Iff.rfl)) (Or.inl ⟨by rfl, fun V hV => ?_⟩) (by assumption) ?_
              rotate_left
              · obtain ⟨l, hn, hV⟩ := hV; have e0 := hV.1.cell 3 (v := .slice (some ⟨b1, o1, none⟩) rn rc) rfl; go_simp
                try with_reducible rfl
              try simp only [Act.put, List.getElem_toArray, List.getElem_cons_zero, List.getElem_cons_succ, List.setIfInBounds_toArray, List.set_cons_zero, List.set_cons_succ]
              refine anyL_take [] (i := 10) (v := ?_) rfl (by kernel_rfl) (by kernel_rfl) (by kernel_rfl) (fun _ _ _ h => h) (by kernel_rfl) (by kernel_rfl) (fun _ _ => and_congr Iff.rfl (imp_congr (getD_set_iff (by decide)) Iff.rfl)) (Or.inl ⟨by rfl, fun V hV => ?_⟩) (by assumption) ?_
              rotate_left
              · go_simp
                try with_reducible rfl
              try simp only [Act.put, List.getElem_toArray, List.getElem_cons_zero, List.getElem_cons_succ, List.setIfInBounds_toArray, List.set_cons_zero, List.set_cons_succ]
              refine anyL_take [] (i := 11) (v := ?_) rfl (by kernel_rfl) (by kernel_rfl) (by kernel_rfl) (fun _ _ _ h => h) (by kernel_rfl) (by kernel_rfl) (fun _ _ => and_congr Iff.rfl (imp_congr (getD_set_iff (by decide)) Iff.rfl)) (Or.inl ⟨by rfl, fun V hV => ?_⟩) (by assumption) ?_
              rotate_left
              · go_simp
                try with_reducible rfl
              try simp only [Act.put, List.getElem_toArray, List.getElem_cons_zero, List.getElem_cons_succ, List.setIfInBounds_toArray, List.set_cons_zero, List.set_cons_succ]
              refine anyL_take [] (i := 12) (v := ?_) rfl (by kernel_rfl) (by kernel_rfl) (by kernel_rfl) (fun _ _ _ h => h) (by kernel_rfl) (by kernel_rfl) (fun _ _ => and_congr Iff.rfl (imp_congr (getD_set_iff (by decide)) Iff.rfl)) (Or.inl ⟨by rfl, fun V hV => ?_⟩) (by assumption) ?_
              rotate_left
              · go_simp
                try with_reducible rfl
              try simp only [Act.put, List.getElem_toArray, List.getElem_cons_zero, List.getElem_cons_succ, List.setIfInBounds_toArray, List.set_cons_zero, List.set_cons_succ]
              refine anyL_take [] (i := 13) (v := ?_) rfl (by kernel_rfl) (by kernel_rfl) (by kernel_rfl) (fun _ _ _ h => h) (by kernel_rfl) (by kernel_rfl) (fun _ _ => and_congr Iff.rfl (imp_congr (getD_set_iff (by decide)) Iff.rfl)) (Or.inl ⟨by rfl, fun V hV => ?_⟩) (by assumption) ?_
              rotate_left
              · obtain ⟨l, hn, hV⟩ := hV; have d0 := HCV.out V hV.1 0 _ rfl; have d1 := HCV.out V hV.1 1 _ rfl; have d2 := HCV.out V hV.1 2 _ rfl; rw [Nat.add_zero] at d0; go_simp
                try with_reducible rfl
              try simp only [Act.put, List.getElem_toArray, List.getElem_cons_zero, List.getElem_cons_succ, List.setIfInBounds_toArray, List.set_cons_zero, List.set_cons_succ]
              refine anyL_one (i := 14) (o := _) (by kernel_rfl) rfl (fun K hK => ?_)
              go_simp
              (with_reducible refine (to_any x.paid _).mono ?_)
              rintro e v14 ⟨rfl, hb⟩
              replace HXr := hid (HXr.out.below hb); replace HVr := hid (HVr.out.below hb); replace HNr := hid (HNr.out.trans (near_below hb)); replace HBr := hid (HBr.out.step hb)
              clear hS hb
              refine hK.out _ _ (⟨HBr.out, fun _ => (HXr.out.2 3 (.slice q9 m9 d9) rfl).1⟩) (fun hS => ?_)
              clear hK K
              try simp only [List.setIfInBounds_toArray, List.set_cons_zero, List.set_cons_succ]
              refine anyL_take [] (i := 15) (v := ?_) rfl (by kernel_rfl) (by kernel_rfl) (by kernel_rfl) (fun _ _ _ h => h) (by kernel_rfl) (by kernel_rfl) (fun _ _ => and_congr Iff.rfl (imp_congr (getD_set_iff (by decide)) Iff.rfl)) (Or.inl ⟨by rfl, fun V hV => ?_⟩) (by assumption) ?_
              rotate_left
              · go_simp
                try with_reducible rfl
              try simp only [Act.put, List.getElem_toArray, List.getElem_cons_zero, List.getElem_cons_succ, List.setIfInBounds_toArray, List.set_cons_zero, List.set_cons_succ]
              refine anyL_one (i := 16) (o := _) (by kernel_rfl) rfl (fun K hK => ?_)
              obtain ⟨v16, hv16⟩ : ∃ V, v14.alloc (.cells (cellsE x).toArray 89) = V := ⟨_, rfl⟩
              have hb : Below v14.heap.size v14 v16 := by rw [← hv16]; exact (Below.refl _ _).alloc (Nat.le_refl _) _
              have HLT : Hid (∀ j u, (cellsE x)[j]? = some u → v16.cell? ⟨v14.heap.size, j, none⟩ = some u) := hid (fun j u hj => by rw [← hv16]; exact cell_box v14 _ 89 j u (by simpa using hj))
              replace HXr := hid (HXr.out.below hb); replace HVr := hid (HVr.out.below hb); replace HNr := hid (HNr.out.trans (near_below hb)); replace HBr := hid (HBr.out.step hb)
              clear hS hb
              unfold cellsE at hv16
              go_simp
              clear hv16
              refine hK.out _ _ (⟨HBr.out, fun _ => (HXr.out.2 3 (.slice q9 m9 d9) rfl).1⟩) (fun hS => ?_)
              clear hK K
              try simp only [List.setIfInBounds_toArray, List.set_cons_zero, List.set_cons_succ]
              refine anyL_one (i := 17) (o := _) (by kernel_rfl) rfl (fun K hK => ?_)
              refine step_append_row cellsE_len (by decide) cellsE_one 35 89 _ 24 (by decide) Try.info89 rfl Try.und35 (by rfl) (.tmp 69) (.tmp 84) (by rfl) W3.heap.size (.slice q9 m9 d9) (p.reps.take k) x v14.heap.size HVr.out rfl rfl HLT.out (by rw [HLE.out]; omega) HNr.out.size ?_
              intro g9 cap9 v15 h15 hb15 hg15 hk15
              rw [HLE.out] at h15 ⊢
              rw [← HTS.out] at h15
              have HV5 := hid h15; have HX5 := hid (HXr.out.keep hb15 (by have := HZ3.out; omega)); have HN5 := hid (HNr.out.trans' (Near.of_below (S := fun i => W3.heap.size ≤ i) hb15 (fun i h1 h2 => h2)) (fun i h1 h2 => by omega)); have HB5 := hid (HBr.out.step' (hb15.mono (by have := HZ3.out; omega)))
              clear hS h15 hb15 hk15
              refine hK.out _ _ (⟨HB5.out, fun _ => (HX5.out.2 3 (.slice q9 m9 d9) rfl).1⟩) (fun hS => ?_)
              clear hK K
              try simp only [Act.put, List.getElem_toArray, List.getElem_cons_zero, List.getElem_cons_succ, List.setIfInBounds_toArray, List.set_cons_zero, List.set_cons_succ]
              refine anyL_take [] (i := 18) (v := ?_) rfl (by kernel_rfl) (by kernel_rfl) (by kernel_rfl) (fun _ _ _ h => h) (by kernel_rfl) (by kernel_rfl) (fun _ _ => and_congr Iff.rfl (imp_congr (getD_set_iff (by decide)) Iff.rfl)) (Or.inl ⟨by rfl, fun V hV => ?_⟩) (by assumption) ?_
              rotate_left
              · go_simp
                try with_reducible rfl
              try simp only [Act.put, List.getElem_toArray, List.getElem_cons_zero, List.getElem_cons_succ, List.setIfInBounds_toArray, List.set_cons_zero, List.set_cons_succ]
              refine anyL_one (i := 19) (o := _) (by kernel_rfl) rfl (fun K hK => ?_)
              have k0 := (HX5.out.2 3 (.slice q9 m9 d9) rfl).1; have k1 := (HX5.out.2 3 (.slice q9 m9 d9) rfl).2
              have HX7 := hid (HX5.out.put (j := 3) (.slice (some ⟨g9, 0, none⟩) (k + 1) cap9))
              have hn7 := (Near.refl (fun i => i = (w.heap.size + 2)) v15).setCell (p := ⟨w.heap.size + 2, 3, none⟩) (fun _ => rfl) (.slice (some ⟨g9, 0, none⟩) (k + 1) cap9)
              have HB7 := hid (HB5.out.step' (hn7.below (B := w.heap.size + 1) HB5.out.size (fun i h1 h2 => by omega)))
              have HV7 := hid (HV5.out.near hn7 (fun i h => by have := HZ3.out; omega))
              have HN7 := hid (HN5.out.trans hn7)
              clear hn7 hS
              go_simp
              clear k0 k1
              refine hK.out _ _ (⟨HB7.out, fun h => absurd h (by decide)⟩) (fun hS => ?_)
              clear hK K
              try simp only [List.setIfInBounds_toArray, List.set_cons_zero, List.set_cons_succ]
              refine anyL_done (by kernel_rfl) ?_ _
              clear hS
              go_wp2_with fail
              go_roundw
              case rel => exact ⟨k + 1, by omega, by go_num, ⟨_, _, _, HX7.out, HV7.out⟩, HN7.out⟩
              case measure => simp [intOf]; omega
            · skip
              have hkn : rn = k := by omega
              subst hkn
              have HTK : Hid (p.reps.take rn = p.reps) := hid (List.take_of_length_le (by have := HRL.out; omega))
              rw [HTK.out] at HVr
              clear HTK
              obtain ⟨q3, d3, e33, hr3⟩ := HVr.out.slice cellsE_len
              have HLQ : Hid (m9 = rn) := hid (by injection e33 with _ a _; rw [a]; exact HRL.out.symm)
              clear e33 hr3 q3 d3
              rw [HLQ.out] at HXr HVr
              clear HLQ
              have HR3 := hid (HVr.out.mono (base' := w.heap.size + 3) HZ3.out)
              have HR1r := hid (HR1.out.near HNr.out (fun k h => by omega))
              have HR2r := hid (HR2.out.near HNr.out (fun k h => by omega))
              have k0 := (HXr.out.2 0 (.slice q1 ln d1) rfl).1; have k1 := (HXr.out.2 1 (.int .i64 p.reserve) rfl).1; have k2 := (HXr.out.2 2 (.slice q2 tn d2) rfl).1; have k3 := (HXr.out.2 3 (.slice q9 rn d9) rfl).1
              have z0 := (HOr.out.2 0 (.slice none 0 0) rfl).1; have y0 := (HOr.out.2 0 (.slice none 0 0) rfl).2; have z1 := (HOr.out.2 1 (.int .i64 0) rfl).1; have y1 := (HOr.out.2 1 (.int .i64 0) rfl).2; have z2 := (HOr.out.2 2 (.slice none 0 0) rfl).1; have y2 := (HOr.out.2 2 (.slice none 0 0) rfl).2; have z3 := (HOr.out.2 3 (.slice none 0 0) rfl).1; have y3 := (HOr.out.2 3 (.slice none 0 0) rfl).2
              have HR := hid ((((HOr.out.put (j := 0) (.slice q1 ln d1)).put (j := 1) (.int .i64 p.reserve)).put (j := 2) (.slice q2 tn d2)).put (j := 3) (.slice q9 rn d9))
              have HN9 := hid (((((Near.refl (fun i => i = (w.heap.size + 1)) wr).setCell (p := ⟨w.heap.size + 1, 0, none⟩) (fun _ => rfl) (.slice q1 ln d1)).setCell (p := ⟨w.heap.size + 1, 1, none⟩) (fun _ => rfl) (.int .i64 p.reserve)).setCell (p := ⟨w.heap.size + 1, 2, none⟩) (fun _ => rfl) (.slice q2 tn d2)).setCell (p := ⟨w.heap.size + 1, 3, none⟩) (fun _ => rfl) (.slice q9 rn d9))
              have HB9 := hid ((((HBr.out.below.setCell (p := ⟨w.heap.size + 1, 0, none⟩) (by show w.heap.size ≤ w.heap.size + 1; omega) (.slice q1 ln d1)).setCell (p := ⟨w.heap.size + 1, 1, none⟩) (by show w.heap.size ≤ w.heap.size + 1; omega) (.int .i64 p.reserve)).setCell (p := ⟨w.heap.size + 1, 2, none⟩) (by show w.heap.size ≤ w.heap.size + 1; omega) (.slice q2 tn d2)).setCell (p := ⟨w.heap.size + 1, 3, none⟩) (by show w.heap.size ≤ w.heap.size + 1; omega) (.slice q9 rn d9))
              go_wp2_with fail
              generalize ((((wr.setCell ⟨w.heap.size + 1, 0, none⟩ (.slice q1 ln d1)).setCell ⟨w.heap.size + 1, 1, none⟩ (.int .i64 p.reserve)).setCell ⟨w.heap.size + 1, 2, none⟩ (.slice q2 tn d2)).setCell ⟨w.heap.size + 1, 3, none⟩ (.slice q9 rn d9)) = W9 at HR HB9 HN9 ⊢
              clear k0 z0 y0 k1 z1 y1 k2 z2 y2 k3 z3 y3
              have x0 := (HR.out.2 0 (.slice q1 ln d1) rfl).1; have x1 := (HR.out.2 1 (.int .i64 p.reserve) rfl).1; have x2 := (HR.out.2 2 (.slice q2 tn d2) rfl).1; have x3 := (HR.out.2 3 (.slice q9 rn d9) rfl).1
              refine bodyPost_ret (v := .agg #[.slice q1 ln d1, .int .i64 p.reserve, .slice q2 tn d2, .slice q9 rn d9]) (by simp [results, Try.f21, go_sem, x0, x1, x2, x3]) rfl ?_
              have o0 := HR1r.out.near HN9.out (fun k h => by omega)
              obtain ⟨_, _, e0, r0⟩ := o0.slice cellsR_len
              rw [← HLL.out] at e0 r0
              cases e0
              have o1 := HR2r.out.near HN9.out (fun k h => by omega)
              obtain ⟨_, _, e1, r1⟩ := o1.slice cellsT_len
              rw [← HTL.out] at e1 r1
              cases e1
              have o2 := HR3.out.near HN9.out (fun k h => by omega)
              obtain ⟨_, _, e2, r2⟩ := o2.slice cellsE_len
              rw [← HRL.out] at e2 r2
              cases e2
              exact ⟨_, _, _, _, _, _, rfl, ⟨r0, r1, r2⟩, o2.cap, HB9.out⟩
end Go.Proofs.Ytaioobhblfnlaaa
