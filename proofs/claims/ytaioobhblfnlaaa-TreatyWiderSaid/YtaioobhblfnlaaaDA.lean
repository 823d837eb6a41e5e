/- The statements' helpers: bounds that are within others; append of structs that may be none. Condition: as each one says. -/
import Derived.Test.YtaioobhblfnlaaaD6
import Derived.Deep.AppendSrc
import Derived.Deep.Upon
namespace Go.Proofs.Ytaioobhblfnlaaa
open Go.RowKit



set_option maxRecDepth 40000 in
set_option maxHeartbeats 4000000 in
theorem narrow_any (qa : Option Addr) (n ca : Nat) (L : List (Rng × Rng)) (qb : Option Addr) (cb : Nat) (M : List (Rng × Rng)) (w : World) (ha : RowsAt cellsB 4 w qa n L) (hb : RowsAt cellsB 4 w qb n M) (hn : n ≤ 1000)
    (hi : ∀ (i : Nat) a b, L[i]? = some a → M[i]? = some b → insideB a.1 b.1 = true ∧ insideB a.2 b.2 = true) :
    Calls Try.prog 58 #[.slice qa n ca, .slice qb n cb] w fun e w' => e = .returned (.bool true) ∧ Below w.heap.size w w' := by
  have HA := hid ha; have HB := hid hb; have HI := hid hi
  clear ha hb hi
  have HW0 : Hid (Below w.heap.size w w) := hid (Below.refl _ _)
  go_enter Try.func58, Try.ntmps58
  go_wp2_with fail
  go_loopw [5] (fun i wr => ∃ j : Nat, j ≤ n ∧ i = .int .i64 j ∧ Below w.heap.size w wr) (fun i _ => n - (intOf i).toNat)
  case atStart => exact ⟨0, by omega, rfl, Below.refl _ _⟩
  case round =>
    obtain ⟨j, hj, rfl, hbw⟩ := hrel
    have HBW := hid hbw
    clear hbw
    by_cases hlt : j < n
    · skip
      obtain ⟨r, hr, b1, o1, rfl, hlt1, hc1⟩ := (HA.out.below HBW.out).at hlt
      obtain ⟨r9, hr9, b2, o2, rfl, hlt2, hc2⟩ := (HB.out.below HBW.out).at hlt
      have hii := HI.out j r r9 hr hr9
      have HI1 := hid hii.1; have HI2 := hid hii.2
      obtain ⟨r1, r2⟩ := r
      obtain ⟨s1, s2⟩ := r9
      have HC1 : Hid (∀ V, Below wr.heap.size wr V → ∀ i v, (cellsB (r1, r2))[i]? = some v → V.cell? ⟨b1, o1 + j * 4 + i, none⟩ = some v) := hid (fun V hV i v hi => (hV.cell (p := ⟨b1, _, none⟩) hlt1).trans (hc1 i v hi))
      have HC2 : Hid (∀ V, Below wr.heap.size wr V → ∀ i v, (cellsB (s1, s2))[i]? = some v → V.cell? ⟨b2, o2 + j * 4 + i, none⟩ = some v) := hid (fun V hV i v hi => (hV.cell (p := ⟨b2, _, none⟩) hlt2).trans (hc2 i v hi))
      clear hr hr9 hii hc1 hc2 hlt1 hlt2
      have hw9 : IntKind.i64.wrap ((j : Int) + 1) = (j : Int) + 1 := IntWalk.i64_in _ (by omega)
      go_upto_region 6 with fail
      refine wp_region_held_drew (S := fun V => Below wr.heap.size wr V) (by kernel_rfl) ((Below.refl _ _).drew) (fun hS => ?_)
      simp only [List.size_toArray, List.length_cons, List.length_nil, Nat.reduceAdd, Array.replicate_succ, Array.replicate_zero, List.push_toArray, List.nil_append, List.cons_append]
      refine tkH (i := 0) (v := ?_) (fun V hV => ?_) ?_
      rotate_left
      · go_simp
        try with_reducible rfl
      try simp only [Act.put, List.getElem_toArray, List.getElem_cons_zero, List.setIfInBounds_toArray, List.set_cons_zero, List.set_cons_succ]
      refine tkH (i := 1) (v := ?_) (fun V hV => ?_) ?_
      rotate_left
      · go_simp
        try with_reducible rfl
      try simp only [Act.put, List.getElem_toArray, List.getElem_cons_zero, List.getElem_cons_succ, List.setIfInBounds_toArray, List.set_cons_zero, List.set_cons_succ]
      refine tkH (i := 2) (v := ?_) (fun V hV => ?_) ?_
      rotate_left
      · go_simp
        try with_reducible rfl
      try simp only [Act.put, List.getElem_toArray, List.getElem_cons_zero, List.getElem_cons_succ, List.setIfInBounds_toArray, List.set_cons_zero, List.set_cons_succ]
      refine tkH (i := 3) (v := ?_) (fun V hV => ?_) ?_
      rotate_left
      · go_simp
        try with_reducible rfl
      try simp only [Act.put, List.getElem_toArray, List.getElem_cons_zero, List.getElem_cons_succ, List.setIfInBounds_toArray, List.set_cons_zero, List.set_cons_succ]
      refine tkH (i := 4) (v := ?_) (fun V hV => ?_) ?_
      rotate_left
      · have d0 := HC1.out V hV 0 _ rfl; have d1 := HC1.out V hV 1 _ rfl; rw [Nat.add_zero] at d0; go_simp
        try with_reducible rfl
      try simp only [Act.put, List.getElem_toArray, List.getElem_cons_zero, List.getElem_cons_succ, List.setIfInBounds_toArray, List.set_cons_zero, List.set_cons_succ]
      refine tkH (i := 5) (v := ?_) (fun V hV => ?_) ?_
      rotate_left
      · go_simp
        try with_reducible rfl
      try simp only [Act.put, List.getElem_toArray, List.getElem_cons_zero, List.getElem_cons_succ, List.setIfInBounds_toArray, List.set_cons_zero, List.set_cons_succ]
      refine tkH (i := 6) (v := ?_) (fun V hV => ?_) ?_
      rotate_left
      · go_simp
        try with_reducible rfl
      try simp only [Act.put, List.getElem_toArray, List.getElem_cons_zero, List.getElem_cons_succ, List.setIfInBounds_toArray, List.set_cons_zero, List.set_cons_succ]
      refine tkH (i := 7) (v := ?_) (fun V hV => ?_) ?_
      rotate_left
      · go_simp
        try with_reducible rfl
      try simp only [Act.put, List.getElem_toArray, List.getElem_cons_zero, List.getElem_cons_succ, List.setIfInBounds_toArray, List.set_cons_zero, List.set_cons_succ]
      refine tkH (i := 8) (v := ?_) (fun V hV => ?_) ?_
      rotate_left
      · go_simp
        try with_reducible rfl
      try simp only [Act.put, List.getElem_toArray, List.getElem_cons_zero, List.getElem_cons_succ, List.setIfInBounds_toArray, List.set_cons_zero, List.set_cons_succ]
      refine tkH (i := 9) (v := ?_) (fun V hV => ?_) ?_
      rotate_left
      · have d0 := HC2.out V hV 0 _ rfl; have d1 := HC2.out V hV 1 _ rfl; rw [Nat.add_zero] at d0; go_simp
        try with_reducible rfl
      try simp only [Act.put, List.getElem_toArray, List.getElem_cons_zero, List.getElem_cons_succ, List.setIfInBounds_toArray, List.set_cons_zero, List.set_cons_succ]
      refine wpAnyH_ready (rs := [10]) (by kernel_rfl) (by simp) ?_
      refine AllReadyH.cons (o := _) rfl (fun K hK => ?_) AllReadyH.nil
      go_simp
      (with_reducible refine (inside_any r1 s1 _).mono ?_)
      rintro e v10 ⟨rfl, hb⟩
      rw [show insideB r1 s1 = true from HI1.out]
      refine hK.out _ _ (hS.trans (hb.mono hS.size)) (fun hS => ?_)
      clear hK K
      try simp only [List.setIfInBounds_toArray, List.set_cons_zero, List.set_cons_succ]
      refine tkH (i := 11) (v := ?_) (fun V hV => ?_) ?_
      rotate_left
      · go_simp
        try with_reducible rfl
      try simp only [Act.put, List.getElem_toArray, List.getElem_cons_zero, List.getElem_cons_succ, List.setIfInBounds_toArray, List.set_cons_zero, List.set_cons_succ]
      refine tkH (i := 12) (v := ?_) (fun V hV => ?_) ?_
      rotate_left
      · go_simp
        try with_reducible rfl
      try simp only [Act.put, List.getElem_toArray, List.getElem_cons_zero, List.getElem_cons_succ, List.setIfInBounds_toArray, List.set_cons_zero, List.set_cons_succ]
      refine tkH (i := 13) (v := ?_) (fun V hV => ?_) ?_
      rotate_left
      · go_simp
        try with_reducible rfl
      try simp only [Act.put, List.getElem_toArray, List.getElem_cons_zero, List.getElem_cons_succ, List.setIfInBounds_toArray, List.set_cons_zero, List.set_cons_succ]
      refine tkH (i := 14) (v := ?_) (fun V hV => ?_) ?_
      rotate_left
      · go_simp
        try with_reducible rfl
      try simp only [Act.put, List.getElem_toArray, List.getElem_cons_zero, List.getElem_cons_succ, List.setIfInBounds_toArray, List.set_cons_zero, List.set_cons_succ]
      refine tkH (i := 15) (v := ?_) (fun V hV => ?_) ?_
      rotate_left
      · go_simp
        try with_reducible rfl
      try simp only [Act.put, List.getElem_toArray, List.getElem_cons_zero, List.getElem_cons_succ, List.setIfInBounds_toArray, List.set_cons_zero, List.set_cons_succ]
      refine tkH (i := 16) (v := ?_) (fun V hV => ?_) ?_
      rotate_left
      · go_simp
        try with_reducible rfl
      try simp only [Act.put, List.getElem_toArray, List.getElem_cons_zero, List.getElem_cons_succ, List.setIfInBounds_toArray, List.set_cons_zero, List.set_cons_succ]
      refine tkH (i := 17) (v := ?_) (fun V hV => ?_) ?_
      rotate_left
      · have d2 := HC1.out V hV 2 _ rfl; have d3 := HC1.out V hV 3 _ rfl; go_simp
        try with_reducible rfl
      try simp only [Act.put, List.getElem_toArray, List.getElem_cons_zero, List.getElem_cons_succ, List.setIfInBounds_toArray, List.set_cons_zero, List.set_cons_succ]
      refine tkH (i := 18) (v := ?_) (fun V hV => ?_) ?_
      rotate_left
      · go_simp
        try with_reducible rfl
      try simp only [Act.put, List.getElem_toArray, List.getElem_cons_zero, List.getElem_cons_succ, List.setIfInBounds_toArray, List.set_cons_zero, List.set_cons_succ]
      refine tkH (i := 19) (v := ?_) (fun V hV => ?_) ?_
      rotate_left
      · go_simp
        try with_reducible rfl
      try simp only [Act.put, List.getElem_toArray, List.getElem_cons_zero, List.getElem_cons_succ, List.setIfInBounds_toArray, List.set_cons_zero, List.set_cons_succ]
      refine tkH (i := 20) (v := ?_) (fun V hV => ?_) ?_
      rotate_left
      · go_simp
        try with_reducible rfl
      try simp only [Act.put, List.getElem_toArray, List.getElem_cons_zero, List.getElem_cons_succ, List.setIfInBounds_toArray, List.set_cons_zero, List.set_cons_succ]
      refine tkH (i := 21) (v := ?_) (fun V hV => ?_) ?_
      rotate_left
      · go_simp
        try with_reducible rfl
      try simp only [Act.put, List.getElem_toArray, List.getElem_cons_zero, List.getElem_cons_succ, List.setIfInBounds_toArray, List.set_cons_zero, List.set_cons_succ]
      refine tkH (i := 22) (v := ?_) (fun V hV => ?_) ?_
      rotate_left
      · have d2 := HC2.out V hV 2 _ rfl; have d3 := HC2.out V hV 3 _ rfl; go_simp
        try with_reducible rfl
      try simp only [Act.put, List.getElem_toArray, List.getElem_cons_zero, List.getElem_cons_succ, List.setIfInBounds_toArray, List.set_cons_zero, List.set_cons_succ]
      refine wpAnyH_ready (rs := [23]) (by kernel_rfl) (by simp) ?_
      refine AllReadyH.cons (o := _) rfl (fun K hK => ?_) AllReadyH.nil
      go_simp
      (with_reducible refine (inside_any r2 s2 _).mono ?_)
      rintro e v23 ⟨rfl, hb⟩
      rw [show insideB r2 s2 = true from HI2.out]
      refine hK.out _ _ (hS.trans (hb.mono hS.size)) (fun hS => ?_)
      clear hK K
      try simp only [List.setIfInBounds_toArray, List.set_cons_zero, List.set_cons_succ]
      refine tkH (i := 24) (v := ?_) (fun V hV => ?_) ?_
      rotate_left
      · go_simp
        try with_reducible rfl
      try simp only [Act.put, List.getElem_toArray, List.getElem_cons_zero, List.getElem_cons_succ, List.setIfInBounds_toArray, List.set_cons_zero, List.set_cons_succ]
      refine tkH (i := 25) (v := ?_) (fun V hV => ?_) ?_
      rotate_left
      · go_simp
        try with_reducible rfl
      try simp only [Act.put, List.getElem_toArray, List.getElem_cons_zero, List.getElem_cons_succ, List.setIfInBounds_toArray, List.set_cons_zero, List.set_cons_succ]
      refine wpAnyH_done (by kernel_rfl) ?_ _
      have HS9 := hid hS
      clear hS
      go_wp2_with fail
      go_roundw
      case rel => exact ⟨j + 1, by omega, by go_num, HBW.out.trans (HS9.out.mono HBW.out.size)⟩
      case measure => simp [intOf]; omega
    · skip
      have hnj : n = j := by omega
      subst hnj
      go_wp2_with fail
      go_ret
      exact ⟨rfl, HBW.out⟩


theorem step_append_rows {α : Type} {enc : α → List Value} {z : Nat} (hz : ∀ c, (enc c).length = z) (h0 : 0 < z) (hone : ∀ c, ∀ u ∈ enc c, u.oneCell' = true) (sl T : TypeId) (zero : Value) (bytes : Nat) (hby : bytes ≤ 1000)
    (hinfo : (Try.prog.info? T).map (fun i => (i.zero, i.size, i.bytes)) = some (some zero, z, bytes)) (hzero : zero.cells.size = z) (hund : Try.prog.underlying sl = some (.slice T))
    {ops : Array Oper} {o : Oper} {a : Act} {w : World} {K : Act → World → Prop} {Q : Exit → Act → World → Prop} {E : Prop} (hgd : o.guard = none) (s x : Operand)
    (ho : o.op = .call { callee := .builtin .append, args := #[s, x], argTypes := #[sl, sl] })
    (base : Nat) (v : Value) (l : List α) (q : Option Addr) (m c : Nat) (y : List α) (hown : OwnRows enc z T w base v l) (hs : a.eval s = v) (hx : a.eval x = .slice q m c) (hy : RowsAt enc z w q m y)
    (hlen : l.length ≤ 2000000) (hm : m ≤ 2000000) (hbase : base ≤ w.heap.size)
    (h : ∀ v' w', OwnRows enc z T w' base v' (l ++ y) → Below base w w' → (∀ k, k < w.heap.size → some k ≠ v.ownBlock → w'.heap[k]? = w.heap[k]?) → K (a.put o.dst v') w') :
    if Region.wanted o (yielded ops a.tmps) = true then Oper.wp Try.prog o a w K Q else E := by
  obtain ⟨i0, hi, hz0, hz1, hz2⟩ := info_parts hinfo
  by_cases hm0 : m = 0
  · subst hm0
    have hy0 : y = [] := List.length_eq_zero_iff.1 hy.1.symm
    subst hy0
    have hw : Region.wanted o (yielded ops a.tmps) = true := by simp [Region.wanted, hgd]
    rw [if_pos hw]
    obtain ⟨ap, cp, hle, rfl⟩ : ∃ ap cp, l.length ≤ cp ∧ v = .slice ap l.length cp := by
      rcases hown.2 with ⟨rfl, h0⟩ | ⟨g, cap, cur, rfl, hg, hh, hn, hm, _⟩
      · exact ⟨none, 0, by omega, by rw [h0]⟩
      · exact ⟨_, cap, by omega, rfl⟩
    have hsrc : Src Try.prog i0.size sl (.slice q 0 c) 0 [] w := by
      cases q with
      | none => exact Src.ofNil w hund c
      | some ad => exact Src.ofSlice w hund ad 0 c [] (by simp) (by simp) (by simp)
    have hr := run_append_nothing (P := Try.prog) w sl sl o.type T i0 hund hi ap l.length cp hle (.slice q 0 c) hsrc
    unfold Oper.wp execOp
    simp only [ho, resolve, invoke, builtin, Sem.run_bind, Sem.run_pure, Result.andThen_ok, List.map_toArray, List.map_cons, List.map_nil, hs, hx, hr]
    exact h _ _ (by rw [List.append_nil]; exact hown) (Below.refl _ _) (fun _ _ _ => rfl)
  · obtain ⟨z0, hz'⟩ : ∃ z, y[0]? = some z := ⟨y[0]'(by have := hy.1; omega), List.getElem?_eq_getElem _⟩
    obtain ⟨b, off, hq, _⟩ := hy.2 0 z0 hz'
    subst hq
    have hbb : (l.length + m) * bytes ≤ 4000000 * 1000 := Nat.mul_le_mul (by omega) hby
    refine step_append_lies w hgd s x sl ho base T i0 zero z bytes hund hi hz0 hz1 hz2 hzero h0 v l.length (l.flatMap enc) hs hown ⟨b, off, none⟩ m c (y.flatMap enc) hx (by rw [flat_len hz, hy.1]) ?_ ?_ (by omega) (by unfold maxLen; omega) (by omega) hbase w.heap.size rfl ?_
    · intro j u hj
      obtain ⟨c9, hc9, hu⟩ := flat_get' hz h0 y j u hj
      obtain ⟨b', off', e, _, hc⟩ := hy.2 (j / z) c9 hc9
      cases e
      have e : (⟨b, off, none⟩ : Addr).add j = ⟨b, off + j / z * z + j % z, none⟩ := by
        have e : (⟨b, off, none⟩ : Addr).add j = ⟨b, off + j, none⟩ := by unfold Addr.add; split <;> simp_all
        have hd := Nat.div_add_mod' j z
        rw [e, show off + j = off + j / z * z + j % z by omega]
      rw [e]
      exact hc _ u hu
    · intro u hu
      obtain ⟨c9, _, hc9⟩ := List.mem_flatMap.1 hu
      exact hone c9 u hc9
    · intro g cap w' h1 h2 h3 h4
      refine h _ w' ?_ ?_ (fun k hk hne => h2.block k hk hne)
      · unfold OwnRows
        rw [List.length_append, ← hy.1, List.flatMap_append]
        exact h1
      · refine (Below.refl base w).grown h2 hbase ?_
        intro k hk
        exact (World.ownsRow.lt hown k hk).1
theorem Try.info104 : (Try.prog.info? 104).map (fun i => (i.zero, i.size, i.bytes)) = some (some (.agg #[.int .i64 0, .int .i64 0, .int .i64 0]), 3, 24) := by kernel_rfl
theorem Try.und24 : Try.prog.underlying 24 = some (.slice 104) := by kernel_rfl
theorem err_cas {p : Prg} (ok : OkP p) : errP p = if possO p allT [] = true then 0 else 11 := errP_ok (fault_iff.2 ok)
theorem err_poss {p : Prg} (ok : OkP p) : errP p = 0 ↔ possO p allT [] = true := by
  rw [err_cas ok]; split <;> simp_all
theorem bnds_len0 {p : Prg} (h : errP p = 0) : (bndsP p).length = p.ts.length := by rw [bndsP, if_pos h, bndsTo]; simp
/-- The bounds of fewer truths are within those of more. -/
theorem narrow_of {x p : Prg} (h : ∀ a ∈ truO x allT [], a ∈ truO p allT []) (hts : x.ts = p.ts) (ex : errP x = 0) (ep : errP p = 0) (ox : OkP x) : ∀ (i : Nat) a b, (bndsP x)[i]? = some a → (bndsP p)[i]? = some b → insideB a.1 b.1 = true ∧ insideB a.2 b.2 = true := by
  intro i a b ha hb
  have hpx := (err_poss ox).1 ex
  rw [bndsP, if_pos ex, bndsTo, List.getElem?_map] at ha
  rw [bndsP, if_pos ep, bndsTo, List.getElem?_map] at hb
  obtain ⟨i1, h1, rfl⟩ := Option.map_eq_some_iff.1 ha
  obtain ⟨i2, h2, rfl⟩ := Option.map_eq_some_iff.1 hb
  have e1 : i1 = i := by have := List.getElem?_eq_some_iff.1 h1; obtain ⟨hl, e⟩ := this; simpa using e.symm
  have e2 : i2 = i := by have := List.getElem?_eq_some_iff.1 h2; obtain ⟨hl, e⟩ := this; simpa using e.symm
  subst e1; subst e2
  have key : ∀ g : (Nat → Int) × Int → Int, insideB (bndQ (bndO g (truO x allT []))) (bndQ (bndO g (truO p allT []))) = true := fun g => by
    obtain ⟨r, hr, _⟩ := bndO_some g (poss_iff_ne.1 hpx)
    obtain ⟨q, hq, h3, h4⟩ := bnd_sub h hr
    rw [hr, hq, inside_iff]; exact ⟨h3, h4⟩
  refine ⟨key _, ?_⟩
  have := key (fun r => keepsF x.ts r.1 i2)
  rw [bndKeeps, bndKeeps, ← hts]; exact this
theorem leave_len {p : Prg} (ok : OkP p) : (leaveP p).length ≤ 5 := by
  have h5 := ok.k5
  by_cases h0 : leaveP p = []
  · rw [h0]; simp
  · have := incr_room p.reps.length (leaveP p) 0 (leave_first ok).1 h0; omega
end Go.Proofs.Ytaioobhblfnlaaa
