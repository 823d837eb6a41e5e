/- The statements' helpers: a storm with some of its cards, whether it has a truth. No condition. -/
import Derived.Test.YtfnefkenheglhaaLawB
namespace Go.Proofs.Ytfnefkenheglhaa
open Go.RowKit

/-- append(out, y), y a card of the reference: at a step of a region that draws its order. -/
theorem step_append_crdR {ops : Array Oper} {o : Oper} {a : Act} {w : World} {K : Act → World → Prop} {Q : Exit → Act → World → Prop} {E : Prop} (hgd : o.guard = none) (s x : Operand)
    (ho : o.op = .call { callee := .builtin .append, args := #[s, x], argTypes := #[24, 24] })
    (base : Nat) (v : Value) (l : List Crd) (y : Crd) (bx : Nat) (hown : OwnRows cellsK 7 61 w base v l) (hs : a.eval s = v) (hx : a.eval x = .slice (some ⟨bx, 0, none⟩) 1 1) (hc : ∀ j u, (cellsK y)[j]? = some u → w.cell? ⟨bx, j, none⟩ = some u)
    (hlen : l.length ≤ 1000000) (hbase : base ≤ w.heap.size)
    (h : ∀ g cap w', OwnRows cellsK 7 61 w' base (.slice (some ⟨g, 0, none⟩) (l.length + 1) cap) (l ++ [y]) → Below base w w' → base ≤ g → (∀ k, k < w.heap.size → some k ≠ v.ownBlock → w'.heap[k]? = w.heap[k]?) → K (a.put o.dst (.slice (some ⟨g, 0, none⟩) (l.length + 1) cap)) w') :
    if Region.wanted o (yielded ops a.tmps) = true then Oper.wp Try.prog o a w K Q else E := by
  obtain ⟨i0, hi, hz0, hz1, hz2⟩ := info_parts Try.info61
  refine step_append_lies w hgd s x 24 ho base 61 i0 _ 7 56 Try.und24 hi hz0 hz1 hz2 rfl (by decide) v l.length (l.flatMap cellsK) hs hown ⟨bx, 0, none⟩ 1 1 (cellsK y) hx rfl ?_ (cellsK_one y) (by decide) (by unfold maxLen; omega) (by omega) hbase w.heap.size rfl ?_
  · intro j u hj
    have e : (⟨bx, 0, none⟩ : Addr).add j = ⟨bx, 0 + j, none⟩ := by unfold Addr.add; split <;> simp_all
    rw [e, Nat.zero_add]; exact hc j u hj
  · intro g cap w' h1 h2 h3 h4
    refine h g cap w' ?_ ?_ ?_ (fun k hk hne => h2.block k hk hne)
    · unfold OwnRows
      simpa using h1
    · refine (Below.refl base w).grown h2 hbase ?_
      intro k hk
      exact (World.ownsRow.lt hown k hk).1
    · rcases h3 with h3 | rfl
      · exact (World.ownsRow.lt hown g h3).1
      · exact hbase

/-- The first cards that bits name. -/
def someTo (l : List Crd) (bits : Int) (k : Nat) : List Crd := ((List.range k).filter (bitB bits)).filterMap fun i => l[i]?
def someL (l : List Crd) (bits : Int) : List Crd := someTo l bits l.length
def someS (s : Sto) (bits : Int) : Sto := ⟨s.wide, s.high, s.fall, s.a, s.b, s.half, s.peak, someL s.cards bits⟩
theorem someTo_snoc {l : List Crd} {bits : Int} {k : Nat} {x : Crd} (h : l[k]? = some x) : someTo l bits (k + 1) = someTo l bits k ++ if bitB bits k = true then [x] else [] := by
  unfold someTo
  rw [List.range_succ, List.filter_append, List.filterMap_append]
  cases hb : bitB bits k <;> simp [hb, h]
theorem someTo_le (l : List Crd) (bits : Int) (k : Nat) : (someTo l bits k).length ≤ k := by
  unfold someTo
  exact Nat.le_trans (List.length_filterMap_le _ _) (Nat.le_trans (List.length_filter_le _ _) (by simp))
theorem some_mem {l : List Crd} {bits : Int} {x : Crd} (h : x ∈ someL l bits) : x ∈ l := by
  unfold someL someTo at h
  obtain ⟨i, _, hi⟩ := List.mem_filterMap.1 h
  exact List.mem_of_getElem? hi
theorem some_ok {s : Sto} (ok : OkS s) (bits : Int) : OkS (someS s bits) := by
  refine ⟨ok.w2, ok.w12, ok.h1, ok.h12, ok.f0, ok.f4, ok.a, ok.b, ok.half, ok.peak, ?_, ?_, ok.many⟩
  · exact Nat.le_trans (someTo_le _ _ _) ok.n6
  · rw [List.all_eq_true]
    intro x hx
    exact List.all_eq_true.1 ok.cards x (some_mem hx)
def SomePost (s : Sto) (bits : Int) (w : World) : Ending → World → Prop := fun e w' => ∃ q m d, e = .returned (.agg #[.int .i64 (someS s bits).wide, .int .i64 (someS s bits).high, .int .i64 (someS s bits).fall, .int .i64 (someS s bits).a.lo, .int .i64 (someS s bits).a.hi, .int .i64 (someS s bits).b.lo, .int .i64 (someS s bits).b.hi, .int .i64 (someS s bits).half.lo, .int .i64 (someS s bits).half.hi, .int .i64 (someS s bits).peak.lo, .int .i64 (someS s bits).peak.hi, .slice q m d]) ∧ CrdsAt w' q m (someS s bits).cards ∧ Below w.heap.size w w'

set_option maxRecDepth 40000 in
set_option maxHeartbeats 8000000 in
theorem some_any (s : Sto) (p : Option Addr) (n c : Nat) (bits : Int) (w : World) (hcs : CrdsAt w p n s.cards) (hn : n ≤ 9) (h0 : 0 ≤ bits) (h1 : bits < 4096) :
    Calls Try.prog 94 #[.agg #[.int .i64 s.wide, .int .i64 s.high, .int .i64 s.fall, .int .i64 s.a.lo, .int .i64 s.a.hi, .int .i64 s.b.lo, .int .i64 s.b.hi, .int .i64 s.half.lo, .int .i64 s.half.hi, .int .i64 s.peak.lo, .int .i64 s.peak.hi, .slice p n c], .int .i64 bits] w (SomePost s bits w) := by
  have HCS := hid (crds_iff.1 hcs)
  have HL := hid hcs.1
  clear hcs
  obtain ⟨W0, hW0⟩ : ∃ V, (((w.alloc (.cells #[.int .i64 s.wide, .int .i64 s.high, .int .i64 s.fall, .int .i64 s.a.lo, .int .i64 s.a.hi, .int .i64 s.b.lo, .int .i64 s.b.hi, .int .i64 s.half.lo, .int .i64 s.half.hi, .int .i64 s.peak.lo, .int .i64 s.peak.hi, .slice p n c] 26)).alloc (.cells #[.int .i64 0, .int .i64 0, .int .i64 0, .int .i64 0, .int .i64 0, .int .i64 0, .int .i64 0, .int .i64 0, .int .i64 0, .int .i64 0, .int .i64 0, .slice none 0 0] 26)).alloc (.cells #[.int .i64 s.wide, .int .i64 s.high, .int .i64 s.fall, .int .i64 s.a.lo, .int .i64 s.a.hi, .int .i64 s.b.lo, .int .i64 s.b.hi, .int .i64 s.half.lo, .int .i64 s.half.hi, .int .i64 s.peak.lo, .int .i64 s.peak.hi, .slice p n c] 26)) = V := ⟨_, rfl⟩
  have HB0 : Hid (Boxed1 w #[.int .i64 s.wide, .int .i64 s.high, .int .i64 s.fall, .int .i64 s.a.lo, .int .i64 s.a.hi, .int .i64 s.b.lo, .int .i64 s.b.hi, .int .i64 s.half.lo, .int .i64 s.half.hi, .int .i64 s.peak.lo, .int .i64 s.peak.hi, .slice p n c] 26 W0) := by show Boxed1 _ _ _ _; rw [← hW0]; exact ((Boxed1.start _ _ _).alloc _).alloc _
  have HO0 : Hid (BoxIs (w.heap.size + 1) #[.int .i64 0, .int .i64 0, .int .i64 0, .int .i64 0, .int .i64 0, .int .i64 0, .int .i64 0, .int .i64 0, .int .i64 0, .int .i64 0, .int .i64 0, .slice none 0 0] W0) := by
    show BoxIs _ _ _
    have h := (BoxIs.start (w.alloc (.cells #[.int .i64 s.wide, .int .i64 s.high, .int .i64 s.fall, .int .i64 s.a.lo, .int .i64 s.a.hi, .int .i64 s.b.lo, .int .i64 s.b.hi, .int .i64 s.half.lo, .int .i64 s.half.hi, .int .i64 s.peak.lo, .int .i64 s.peak.hi, .slice p n c] 26)) #[.int .i64 0, .int .i64 0, .int .i64 0, .int .i64 0, .int .i64 0, .int .i64 0, .int .i64 0, .int .i64 0, .int .i64 0, .int .i64 0, .int .i64 0, .slice none 0 0] 26).below ((Below.refl _ _).alloc (Nat.le_refl _) (.cells #[.int .i64 s.wide, .int .i64 s.high, .int .i64 s.fall, .int .i64 s.a.lo, .int .i64 s.a.hi, .int .i64 s.b.lo, .int .i64 s.b.hi, .int .i64 s.half.lo, .int .i64 s.half.hi, .int .i64 s.peak.lo, .int .i64 s.peak.hi, .slice p n c] 26))
    rw [World.size_alloc, hW0] at h; exact h
  have HX0 : Hid (BoxIs (w.heap.size + 2) #[.int .i64 s.wide, .int .i64 s.high, .int .i64 s.fall, .int .i64 s.a.lo, .int .i64 s.a.hi, .int .i64 s.b.lo, .int .i64 s.b.hi, .int .i64 s.half.lo, .int .i64 s.half.hi, .int .i64 s.peak.lo, .int .i64 s.peak.hi, .slice p n c] W0) := by
    show BoxIs _ _ _
    have h := BoxIs.start ((w.alloc (.cells #[.int .i64 s.wide, .int .i64 s.high, .int .i64 s.fall, .int .i64 s.a.lo, .int .i64 s.a.hi, .int .i64 s.b.lo, .int .i64 s.b.hi, .int .i64 s.half.lo, .int .i64 s.half.hi, .int .i64 s.peak.lo, .int .i64 s.peak.hi, .slice p n c] 26)).alloc (.cells #[.int .i64 0, .int .i64 0, .int .i64 0, .int .i64 0, .int .i64 0, .int .i64 0, .int .i64 0, .int .i64 0, .int .i64 0, .int .i64 0, .int .i64 0, .slice none 0 0] 26)) #[.int .i64 s.wide, .int .i64 s.high, .int .i64 s.fall, .int .i64 s.a.lo, .int .i64 s.a.hi, .int .i64 s.b.lo, .int .i64 s.b.hi, .int .i64 s.half.lo, .int .i64 s.half.hi, .int .i64 s.peak.lo, .int .i64 s.peak.hi, .slice p n c] 26
    rw [World.size_alloc, World.size_alloc, hW0] at h; exact h
  have k0 := (HX0.out.2 11 (.slice p n c) rfl).1; have k1 := (HX0.out.2 11 (.slice p n c) rfl).2
  go_enter Try.func94, Try.ntmps94
  go_upto_region 3 with fail
  have HX1 := hid (HX0.out.put (j := 11) (.slice none 0 0))
  have HO1 := hid (HO0.out.other (b' := w.heap.size + 2) (k' := 11) (by omega) (.slice none 0 0))
  have HB1 := hid (HB0.out.step' ((Below.refl (w.heap.size + 1) W0).setCell (p := ⟨w.heap.size + 2, 11, none⟩) (by show w.heap.size + 1 ≤ w.heap.size + 2; omega) (.slice none 0 0)))
  generalize (W0.setCell ⟨w.heap.size + 2, 11, none⟩ (.slice none 0 0)) = W1 at HX1 HO1 HB1 ⊢
  clear k0 k1 hW0 HX0 HO0 HB0
  go_wp2_with fail
  go_loopw [6] (fun i wr => ∃ k : Nat, k ≤ n ∧ i = .int .i64 k ∧ (∃ q m d, BoxIs (w.heap.size + 2) #[.int .i64 s.wide, .int .i64 s.high, .int .i64 s.fall, .int .i64 s.a.lo, .int .i64 s.a.hi, .int .i64 s.b.lo, .int .i64 s.b.hi, .int .i64 s.half.lo, .int .i64 s.half.hi, .int .i64 s.peak.lo, .int .i64 s.peak.hi, .slice q m d] wr ∧ OwnRows cellsK 7 61 wr (w.heap.size + 3) (.slice q m d) (someTo s.cards bits k)) ∧ Boxed1 w #[.int .i64 s.wide, .int .i64 s.high, .int .i64 s.fall, .int .i64 s.a.lo, .int .i64 s.a.hi, .int .i64 s.b.lo, .int .i64 s.b.hi, .int .i64 s.half.lo, .int .i64 s.half.hi, .int .i64 s.peak.lo, .int .i64 s.peak.hi, .slice p n c] 26 wr ∧ BoxIs (w.heap.size + 1) #[.int .i64 0, .int .i64 0, .int .i64 0, .int .i64 0, .int .i64 0, .int .i64 0, .int .i64 0, .int .i64 0, .int .i64 0, .int .i64 0, .int .i64 0, .slice none 0 0] wr) (fun i _ => n - (intOf i).toNat)
  case atStart => exact ⟨0, by omega, rfl, ⟨none, 0, 0, HX1.out, ownRows_nil _ _ _ _ _⟩, HB1.out, HO1.out⟩
  case round =>
    obtain ⟨k, hk, rfl, ⟨q9, m9, d9, hx, hv⟩, hb, ho⟩ := hrel
    have HXr := hid hx; have HVr := hid hv; have HBr := hid hb; have HOr := hid ho
    have e11 := (StoAt.of hb.cell).c11
    by_cases hlt : k < n
    · obtain ⟨x, hx7, b1, o1, rfl, hlt1, hc⟩ := (HCS.out.below hb.below).at hlt
      have HTS := hid (someTo_snoc (bits := bits) hx7)
      have HLE : Hid ((someTo s.cards bits k).length ≤ 1000000) := hid (Nat.le_trans (someTo_le _ _ _) (by omega))
      have HCV : Hid (∀ V, Boxed1 w #[.int .i64 s.wide, .int .i64 s.high, .int .i64 s.fall, .int .i64 s.a.lo, .int .i64 s.a.hi, .int .i64 s.b.lo, .int .i64 s.b.hi, .int .i64 s.half.lo, .int .i64 s.half.hi, .int .i64 s.peak.lo, .int .i64 s.peak.hi, .slice (some ⟨b1, o1, none⟩) n c] 26 V → ∀ j u, (cellsK x)[j]? = some u → V.cell? ⟨b1, o1 + k * 7 + j, none⟩ = some u) := fun V hV j u hj => by
        obtain ⟨x', hx', b2, o2, e2, _, hc2⟩ := (HCS.out.below hV.below).at hlt
        cases e2
        rw [hx7] at hx'; cases hx'
        exact hc2 j u hj
      clear hc hx7 hx hv hb ho
      have hdz : 0 ≤ bits / 2 ^ k := Int.ediv_nonneg h0 (by exact_mod_cast Nat.zero_le _)
      have hdl : bits / 2 ^ k < 4096 := by
        have : bits / 2 ^ k ≤ bits := Int.ediv_le_self _ h0
        omega
      have hbt : bitB bits k = (bits / 2 ^ k % 2 == 1) := rfl
      have hmd : (bits / 2 ^ k).tmod 2 = bits / 2 ^ k % 2 := Int.tmod_eq_emod_of_nonneg hdz
      cases hbk : bitB bits k
      · have hq : (bits / 2 ^ k % 2 == 1) = false := by rw [← hbt, hbk]
        rw [hbk] at HTS
        clear hbt hbk
        go_wp2_with fail
        go_roundw
        case rel => exact ⟨k + 1, by omega, by go_num, ⟨_, _, _, HXr.out, by have h := HTS.out; simp only [Bool.false_eq_true, if_false, List.append_nil] at h; rw [h]; exact HVr.out⟩, HBr.out, HOr.out⟩
        case measure => simp [intOf]; omega
      · have hq : (bits / 2 ^ k % 2 == 1) = true := by rw [← hbt, hbk]
        rw [hbk, if_pos rfl] at HTS
        clear hbt hbk
        go_upto_region 7 with fail
        clear e11 hdz hdl hmd hq
        have HXr := hid (HXr.out.below (Below.refl _ _).drew); have HOr := hid (HOr.out.below (Below.refl _ _).drew); have HVr := hid (HVr.out.below (Below.refl _ _).drew)
        refine wp_region_listed (S := fun l V => Boxed1 w #[.int .i64 s.wide, .int .i64 s.high, .int .i64 s.fall, .int .i64 s.a.lo, .int .i64 s.a.hi, .int .i64 s.b.lo, .int .i64 s.b.hi, .int .i64 s.half.lo, .int .i64 s.half.hi, .int .i64 s.peak.lo, .int .i64 s.peak.hi, .slice (some ⟨b1, o1, none⟩) n c] 26 V ∧ (l.getD 10 true = false → V.cell? ⟨w.heap.size + 2, 11, none⟩ = some (.slice q9 m9 d9))) (by kernel_rfl) (⟨HBr.out.drew, fun _ => (HXr.out.2 11 (.slice q9 m9 d9) rfl).1⟩) (fun hS => ?_)
        simp only [List.size_toArray, List.length_cons, List.length_nil, Nat.reduceAdd, Array.replicate_succ, Array.replicate_zero, List.push_toArray, List.nil_append, List.cons_append]
        generalize wr.drew = Wd at HXr HOr HVr HCV hS ⊢
        refine anyL_take [] (i := 0) (v := ?_) rfl (by kernel_rfl) (by kernel_rfl) (by kernel_rfl) (fun _ _ _ h => h) (by kernel_rfl) (by kernel_rfl) (fun _ _ => and_congr Iff.rfl (imp_congr (getD_set_iff (by decide)) Iff.rfl)) (Or.inl ⟨by rfl, fun V hV => ?_⟩) (by assumption) ?_
        rotate_left
        · go_simp
          try with_reducible rfl
        try simp only [Act.put, List.getElem_toArray, List.getElem_cons_zero, List.setIfInBounds_toArray, List.set_cons_zero, List.set_cons_succ]
        refine anyL_take [10] (i := 1) (v := ?_) rfl (by kernel_rfl) (by kernel_rfl) (by kernel_rfl) (fun _ _ _ h => h) (by kernel_rfl) (by kernel_rfl) (fun _ _ => and_congr Iff.rfl (imp_congr (getD_set_iff (by decide)) Iff.rfl)) (Or.inl ⟨by rfl, fun V hV => ?_⟩) (by assumption) ?_
        rotate_left
        · obtain ⟨l, hn, hV⟩ := hV; have e0 := hV.2 (hn 10 (by simp)); go_simp
          try with_reducible rfl
        try simp only [Act.put, List.getElem_toArray, List.getElem_cons_zero, List.getElem_cons_succ, List.setIfInBounds_toArray, List.set_cons_zero, List.set_cons_succ]
        refine anyL_take [] (i := 2) (v := ?_) rfl (by kernel_rfl) (by kernel_rfl) (by kernel_rfl) (fun _ _ _ h => h) (by kernel_rfl) (by kernel_rfl) (fun _ _ => and_congr Iff.rfl (imp_congr (getD_set_iff (by decide)) Iff.rfl)) (Or.inl ⟨by rfl, fun V hV => ?_⟩) (by assumption) ?_
        rotate_left
        · go_simp
          try with_reducible rfl
        try simp only [Act.put, List.getElem_toArray, List.getElem_cons_zero, List.getElem_cons_succ, List.setIfInBounds_toArray, List.set_cons_zero, List.set_cons_succ]
        refine anyL_take [] (i := 3) (v := ?_) rfl (by kernel_rfl) (by kernel_rfl) (by kernel_rfl) (fun _ _ _ h => h) (by kernel_rfl) (by kernel_rfl) (fun _ _ => and_congr Iff.rfl (imp_congr (getD_set_iff (by decide)) Iff.rfl)) (Or.inl ⟨by rfl, fun V hV => ?_⟩) (by assumption) ?_
        rotate_left
        · obtain ⟨l, hn, hV⟩ := hV; have e1 := (StoAt.of hV.1.cell).c11; go_simp
          try with_reducible rfl
        try simp only [Act.put, List.getElem_toArray, List.getElem_cons_zero, List.getElem_cons_succ, List.setIfInBounds_toArray, List.set_cons_zero, List.set_cons_succ]
        refine anyL_take [] (i := 4) (v := ?_) rfl (by kernel_rfl) (by kernel_rfl) (by kernel_rfl) (fun _ _ _ h => h) (by kernel_rfl) (by kernel_rfl) (fun _ _ => and_congr Iff.rfl (imp_congr (getD_set_iff (by decide)) Iff.rfl)) (Or.inl ⟨by rfl, fun V hV => ?_⟩) (by assumption) ?_
        rotate_left
        · go_simp
          try with_reducible rfl
        try simp only [Act.put, List.getElem_toArray, List.getElem_cons_zero, List.getElem_cons_succ, List.setIfInBounds_toArray, List.set_cons_zero, List.set_cons_succ]
        refine anyL_take [] (i := 5) (v := ?_) rfl (by kernel_rfl) (by kernel_rfl) (by kernel_rfl) (fun _ _ _ h => h) (by kernel_rfl) (by kernel_rfl) (fun _ _ => and_congr Iff.rfl (imp_congr (getD_set_iff (by decide)) Iff.rfl)) (Or.inl ⟨by rfl, fun V hV => ?_⟩) (by assumption) ?_
        rotate_left
        · go_simp
          try with_reducible rfl
        try simp only [Act.put, List.getElem_toArray, List.getElem_cons_zero, List.getElem_cons_succ, List.setIfInBounds_toArray, List.set_cons_zero, List.set_cons_succ]
        refine anyL_take [] (i := 6) (v := ?_) rfl (by kernel_rfl) (by kernel_rfl) (by kernel_rfl) (fun _ _ _ h => h) (by kernel_rfl) (by kernel_rfl) (fun _ _ => and_congr Iff.rfl (imp_congr (getD_set_iff (by decide)) Iff.rfl)) (Or.inl ⟨by rfl, fun V hV => ?_⟩) (by assumption) ?_
        rotate_left
        · obtain ⟨l, hn, hV⟩ := hV; have d0 : V.cell? ⟨b1, o1 + k * 7, none⟩ = some (.int .i64 x.x.lo) := HCV.out V hV.1 0 _ rfl; have d1 := HCV.out V hV.1 1 _ rfl; have d2 := HCV.out V hV.1 2 _ rfl; have d3 := HCV.out V hV.1 3 _ rfl; have d4 := HCV.out V hV.1 4 _ rfl; have d5 := HCV.out V hV.1 5 _ rfl; have d6 := HCV.out V hV.1 6 _ rfl; go_simp
          try with_reducible rfl
        try simp only [Act.put, List.getElem_toArray, List.getElem_cons_zero, List.getElem_cons_succ, List.setIfInBounds_toArray, List.set_cons_zero, List.set_cons_succ]
        refine anyL_one (i := 7) (o := _) (by kernel_rfl) rfl (fun K hK => ?_)
        obtain ⟨v7, hv7⟩ : ∃ V, Wd.alloc (.cells (cellsK x).toArray 61) = V := ⟨_, rfl⟩
        have hb : Below Wd.heap.size Wd v7 := by rw [← hv7]; exact (Below.refl _ _).alloc (Nat.le_refl _) _
        have HL3 : Hid (∀ j u, (cellsK x)[j]? = some u → v7.cell? ⟨Wd.heap.size, j, none⟩ = some u) := fun j u hj => by rw [← hv7]; exact cell_box Wd _ 61 j u (by simpa using hj)
        have HX3 := hid (HXr.out.below hb); have HO3 := hid (HOr.out.below hb); have HV3 := hid (HVr.out.below hb); have HB3 := hid (hS.1.step hb)
        clear hS
        unfold cellsK at hv7
        go_simp
        clear hb hv7
        refine hK.out _ _ (⟨HB3.out, fun _ => (HX3.out.2 11 (.slice q9 m9 d9) rfl).1⟩) (fun hS => ?_)
        clear hK K
        try simp only [List.setIfInBounds_toArray, List.set_cons_zero, List.set_cons_succ]
        refine anyL_one (i := 8) (o := _) (by kernel_rfl) rfl (fun K hK => ?_)
        refine step_append_crdR (by rfl) (.tmp 23) (.tmp 29) (by rfl) (w.heap.size + 3) (.slice q9 m9 d9) (someTo s.cards bits k) x Wd.heap.size HV3.out rfl rfl HL3.out HLE.out (by have := HX3.out.1; omega) ?_
        intro g9 cap9 v15 h15 hb15 hg15 hk15
        rw [← HTS.out] at h15
        have HV5 := hid h15; have HX5 := hid (HX3.out.keep hb15 (by omega)); have HO5 := hid (HO3.out.keep hb15 (by omega)); have HB5 := hid (hS.1.step' (hb15.mono (by omega)))
        clear hS h15 hb15 hk15
        refine hK.out _ _ (⟨HB5.out, fun _ => (HX5.out.2 11 (.slice q9 m9 d9) rfl).1⟩) (fun hS => ?_)
        clear hK K
        try simp only [Act.put, List.getElem_toArray, List.getElem_cons_zero, List.getElem_cons_succ, List.setIfInBounds_toArray, List.set_cons_zero, List.set_cons_succ]
        refine anyL_take [] (i := 9) (v := ?_) rfl (by kernel_rfl) (by kernel_rfl) (by kernel_rfl) (fun _ _ _ h => h) (by kernel_rfl) (by kernel_rfl) (fun _ _ => and_congr Iff.rfl (imp_congr (getD_set_iff (by decide)) Iff.rfl)) (Or.inl ⟨by rfl, fun V hV => ?_⟩) (by assumption) ?_
        rotate_left
        · go_simp
          try with_reducible rfl
        try simp only [Act.put, List.getElem_toArray, List.getElem_cons_zero, List.getElem_cons_succ, List.setIfInBounds_toArray, List.set_cons_zero, List.set_cons_succ]
        refine anyL_one (i := 10) (o := _) (by kernel_rfl) rfl (fun K hK => ?_)
        have k0 := (HX5.out.2 11 (.slice q9 m9 d9) rfl).1; have k1 := (HX5.out.2 11 (.slice q9 m9 d9) rfl).2
        have HX7 := hid (HX5.out.put (j := 11) (.slice (some ⟨g9, 0, none⟩) ((someTo s.cards bits k).length + 1) cap9))
        have hn7 := (Near.refl (fun i => i = w.heap.size + 2) v15).setCell (p := ⟨w.heap.size + 2, 11, none⟩) (fun _ => rfl) (.slice (some ⟨g9, 0, none⟩) ((someTo s.cards bits k).length + 1) cap9)
        have HB7 := hid (HB5.out.step' (hn7.below (B := w.heap.size + 1) HB5.out.size (fun i h1 h2 => by omega)))
        have HO7 := hid (HO5.out.near hn7 (by omega))
        have HV7 := hid (HV5.out.near hn7 (fun i h => by omega))
        clear hn7 hS
        go_simp
        clear k0 k1
        refine hK.out _ _ (⟨HB7.out, fun h => absurd h (by decide)⟩) (fun hS => ?_)
        clear hK K
        try simp only [List.setIfInBounds_toArray, List.set_cons_zero, List.set_cons_succ]
        refine anyL_done (by kernel_rfl) ?_ _
        clear hS
        go_wp2_with fail
        go_roundw
        case rel => exact ⟨k + 1, by omega, by go_num, ⟨_, _, _, HX7.out, HV7.out⟩, HB7.out, HO7.out⟩
        case measure => simp [intOf]; omega
    · have hkn : k = n := by omega
      subst hkn
      have HV9 := hid hv
      clear hx hv hb ho
      have k0 := (HXr.out.2 0 (.int .i64 s.wide) rfl).1; have k1 := (HXr.out.2 1 (.int .i64 s.high) rfl).1; have k2 := (HXr.out.2 2 (.int .i64 s.fall) rfl).1; have k3 := (HXr.out.2 3 (.int .i64 s.a.lo) rfl).1; have k4 := (HXr.out.2 4 (.int .i64 s.a.hi) rfl).1; have k5 := (HXr.out.2 5 (.int .i64 s.b.lo) rfl).1; have k6 := (HXr.out.2 6 (.int .i64 s.b.hi) rfl).1; have k7 := (HXr.out.2 7 (.int .i64 s.half.lo) rfl).1; have k8 := (HXr.out.2 8 (.int .i64 s.half.hi) rfl).1; have k9 := (HXr.out.2 9 (.int .i64 s.peak.lo) rfl).1; have k10 := (HXr.out.2 10 (.int .i64 s.peak.hi) rfl).1; have k11 := (HXr.out.2 11 (.slice q9 m9 d9) rfl).1
      have z0 := (HOr.out.2 0 (.int .i64 0) rfl).1; have y0 := (HOr.out.2 0 (.int .i64 0) rfl).2; have z1 := (HOr.out.2 1 (.int .i64 0) rfl).1; have y1 := (HOr.out.2 1 (.int .i64 0) rfl).2; have z2 := (HOr.out.2 2 (.int .i64 0) rfl).1; have y2 := (HOr.out.2 2 (.int .i64 0) rfl).2; have z3 := (HOr.out.2 3 (.int .i64 0) rfl).1; have y3 := (HOr.out.2 3 (.int .i64 0) rfl).2; have z4 := (HOr.out.2 4 (.int .i64 0) rfl).1; have y4 := (HOr.out.2 4 (.int .i64 0) rfl).2; have z5 := (HOr.out.2 5 (.int .i64 0) rfl).1; have y5 := (HOr.out.2 5 (.int .i64 0) rfl).2; have z6 := (HOr.out.2 6 (.int .i64 0) rfl).1; have y6 := (HOr.out.2 6 (.int .i64 0) rfl).2; have z7 := (HOr.out.2 7 (.int .i64 0) rfl).1; have y7 := (HOr.out.2 7 (.int .i64 0) rfl).2; have z8 := (HOr.out.2 8 (.int .i64 0) rfl).1; have y8 := (HOr.out.2 8 (.int .i64 0) rfl).2; have z9 := (HOr.out.2 9 (.int .i64 0) rfl).1; have y9 := (HOr.out.2 9 (.int .i64 0) rfl).2; have z10 := (HOr.out.2 10 (.int .i64 0) rfl).1; have y10 := (HOr.out.2 10 (.int .i64 0) rfl).2; have z11 := (HOr.out.2 11 (.slice none 0 0) rfl).1; have y11 := (HOr.out.2 11 (.slice none 0 0) rfl).2
      have HR := hid (HOr.out.put12 (.int .i64 s.wide) (.int .i64 s.high) (.int .i64 s.fall) (.int .i64 s.a.lo) (.int .i64 s.a.hi) (.int .i64 s.b.lo) (.int .i64 s.b.hi) (.int .i64 s.half.lo) (.int .i64 s.half.hi) (.int .i64 s.peak.lo) (.int .i64 s.peak.hi) (.slice q9 m9 d9))
      have HB9 := hid (below_put12 HBr.out.below (Nat.le_succ _) (.int .i64 s.wide) (.int .i64 s.high) (.int .i64 s.fall) (.int .i64 s.a.lo) (.int .i64 s.a.hi) (.int .i64 s.b.lo) (.int .i64 s.b.hi) (.int .i64 s.half.lo) (.int .i64 s.half.hi) (.int .i64 s.peak.lo) (.int .i64 s.peak.hi) (.slice q9 m9 d9))
      have HN9 := hid (near_put12 (S := fun k => k = w.heap.size + 1) (Near.refl _ wr) rfl (.int .i64 s.wide) (.int .i64 s.high) (.int .i64 s.fall) (.int .i64 s.a.lo) (.int .i64 s.a.hi) (.int .i64 s.b.lo) (.int .i64 s.b.hi) (.int .i64 s.half.lo) (.int .i64 s.half.hi) (.int .i64 s.peak.lo) (.int .i64 s.peak.hi) (.slice q9 m9 d9))
      go_wp2_with fail
      generalize ((((((((((((wr.setCell ⟨w.heap.size + 1, 0, none⟩ (.int .i64 s.wide)).setCell ⟨w.heap.size + 1, 1, none⟩ (.int .i64 s.high)).setCell ⟨w.heap.size + 1, 2, none⟩ (.int .i64 s.fall)).setCell ⟨w.heap.size + 1, 3, none⟩ (.int .i64 s.a.lo)).setCell ⟨w.heap.size + 1, 4, none⟩ (.int .i64 s.a.hi)).setCell ⟨w.heap.size + 1, 5, none⟩ (.int .i64 s.b.lo)).setCell ⟨w.heap.size + 1, 6, none⟩ (.int .i64 s.b.hi)).setCell ⟨w.heap.size + 1, 7, none⟩ (.int .i64 s.half.lo)).setCell ⟨w.heap.size + 1, 8, none⟩ (.int .i64 s.half.hi)).setCell ⟨w.heap.size + 1, 9, none⟩ (.int .i64 s.peak.lo)).setCell ⟨w.heap.size + 1, 10, none⟩ (.int .i64 s.peak.hi)).setCell ⟨w.heap.size + 1, 11, none⟩ (.slice q9 m9 d9)) = W9 at HR HB9 HN9 ⊢
      clear k0 z0 y0 k1 z1 y1 k2 z2 y2 k3 z3 y3 k4 z4 y4 k5 z5 y5 k6 z6 y6 k7 z7 y7 k8 z8 y8 k9 z9 y9 k10 z10 y10 k11 z11 y11 e11
      have x0 := (HR.out.2 0 (.int .i64 s.wide) rfl).1; have x1 := (HR.out.2 1 (.int .i64 s.high) rfl).1; have x2 := (HR.out.2 2 (.int .i64 s.fall) rfl).1; have x3 := (HR.out.2 3 (.int .i64 s.a.lo) rfl).1; have x4 := (HR.out.2 4 (.int .i64 s.a.hi) rfl).1; have x5 := (HR.out.2 5 (.int .i64 s.b.lo) rfl).1; have x6 := (HR.out.2 6 (.int .i64 s.b.hi) rfl).1; have x7 := (HR.out.2 7 (.int .i64 s.half.lo) rfl).1; have x8 := (HR.out.2 8 (.int .i64 s.half.hi) rfl).1; have x9 := (HR.out.2 9 (.int .i64 s.peak.lo) rfl).1; have x10 := (HR.out.2 10 (.int .i64 s.peak.hi) rfl).1; have x11 := (HR.out.2 11 (.slice q9 m9 d9) rfl).1
      refine bodyPost_ret (v := .agg #[.int .i64 s.wide, .int .i64 s.high, .int .i64 s.fall, .int .i64 s.a.lo, .int .i64 s.a.hi, .int .i64 s.b.lo, .int .i64 s.b.hi, .int .i64 s.half.lo, .int .i64 s.half.hi, .int .i64 s.peak.lo, .int .i64 s.peak.hi, .slice q9 m9 d9]) (by simp [results, Try.f94, go_sem, x0, x1, x2, x3, x4, x5, x6, x7, x8, x9, x10, x11]) rfl ?_
      have hown := HV9.out.near HN9.out (fun k hk => by omega)
      obtain ⟨q2, d2, e2, hr2⟩ := hown.slice cellsK_len
      cases e2
      exact ⟨_, _, _, rfl, by show CrdsAt _ _ _ (someTo s.cards bits s.cards.length); rw [← HL.out]; exact crds_iff.2 hr2, HB9.out⟩
def hasT (s : Sto) (bits : Int) : Bool := decide (truthL (someS s bits) ≠ [])

set_option maxRecDepth 40000 in
set_option maxHeartbeats 8000000 in
theorem has43_any (s : Sto) (p : Option Addr) (n c : Nat) (bits : Int) (w : World) (hcs : CrdsAt w p n s.cards) (ok : OkS s) (h0 : 0 ≤ bits) (h1 : bits < 4096) :
    Calls Try.prog 43 #[.agg #[.int .i64 s.wide, .int .i64 s.high, .int .i64 s.fall, .int .i64 s.a.lo, .int .i64 s.a.hi, .int .i64 s.b.lo, .int .i64 s.b.hi, .int .i64 s.half.lo, .int .i64 s.half.hi, .int .i64 s.peak.lo, .int .i64 s.peak.hi, .slice p n c], .int .i64 bits] w fun e w' => e = .returned (.tuple #[.bool (hasT s bits), .bool true]) ∧ Below w.heap.size w w' := by
  have HC := hid hcs
  have hn6 : n ≤ 6 := by have := hcs.1; have := ok.n6; omega
  have HE : Hid (sureE (someS s bits) true = if truthL (someS s bits) = [] then 11 else 0) := by show _ = _; rw [sureE, if_pos (fault_iff.2 (some_ok ok bits)), if_pos rfl]
  have HT := hid (show hasT s bits = decide (truthL (someS s bits) ≠ []) from rfl)
  clear hcs ok
  have H0 : Hid (Boxed1 w #[.int .i64 s.wide, .int .i64 s.high, .int .i64 s.fall, .int .i64 s.a.lo, .int .i64 s.a.hi, .int .i64 s.b.lo, .int .i64 s.b.hi, .int .i64 s.half.lo, .int .i64 s.half.hi, .int .i64 s.peak.lo, .int .i64 s.peak.hi, .slice p n c] 26 (w.alloc (.cells #[.int .i64 s.wide, .int .i64 s.high, .int .i64 s.fall, .int .i64 s.a.lo, .int .i64 s.a.hi, .int .i64 s.b.lo, .int .i64 s.b.hi, .int .i64 s.half.lo, .int .i64 s.half.hi, .int .i64 s.peak.lo, .int .i64 s.peak.hi, .slice p n c] 26))) := Boxed1.start _ _ _
  go_enter Try.func43, Try.ntmps43
  go_wp2_with fail
  refine (some_any s p n c bits _ (HC.out.below H0.out.below) (by omega) h0 h1).mono ?_
  rintro e w1 ⟨q, m, d, rfl, hc1, hb⟩
  have H1 := hid (H0.out.step hb)
  have HC1 := hid hc1
  have HM : Hid (m ≤ 1000) := hid (by rw [hc1.1]; exact Nat.le_trans (someTo_le _ _ _) (by have := HC.out.1; omega))
  clear hb hc1
  go_wp2_with fail
  refine (storm20_any (someS s bits) q m d w1 HC1.out HM.out).mono ?_
  rintro e w2 ⟨q2, m2, d2, rfl, hc2, hb⟩
  have H2 := hid (H1.out.step hb)
  have HC2 := hid hc2
  clear hb hc2
  go_wp2_with fail
  refine (bounds_any (someS s bits) q2 m2 d2 w2 HC2.out).mono ?_
  rintro e w3 ⟨q3, m3, d3, rfl, _, hb⟩
  have H3 := hid (H2.out.step hb)
  clear hb
  rw [HE.out]
  by_cases hL : truthL (someS s bits) = []
  · have HT2 : Hid (hasT s bits = false) := by show _ = _; rw [HT.out]; simp [hL]
    rw [if_pos hL]
    clear hL
    go_wp2_with fail
    go_ret2
    exact ⟨by rw [HT2.out]; rfl, H3.out.below.alloc H3.out.below.size _⟩
  · have HT2 : Hid (hasT s bits = true) := by show _ = _; rw [HT.out]; simp [hL]
    rw [if_neg hL]
    clear hL
    go_wp2_with fail
    go_ret2
    exact ⟨by rw [HT2.out]; rfl, H3.out.below.alloc H3.out.below.size _⟩
end Go.Proofs.Ytfnefkenheglhaa
