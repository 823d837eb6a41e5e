/- The statements' helpers: a storm for the program. No condition. -/
import Derived.Test.YtfnefkenheglhaaLawA
import Derived.Deep.AppendLies
namespace Go.Proofs.Ytfnefkenheglhaa
open Go.RowKit

/-- append(out, y), y a card: at a step of a region that draws its order. -/
theorem step_append_crd {ops : Array Oper} {o : Oper} {a : Act} {w : World} {K : Act → World → Prop} {Q : Exit → Act → World → Prop} {E : Prop} (hgd : o.guard = none) (s x : Operand)
    (ho : o.op = .call { callee := .builtin .append, args := #[s, x], argTypes := #[33, 33] })
    (base : Nat) (v : Value) (l : List Crd) (y : Crd) (bx : Nat) (hown : OwnRows cellsK 7 119 w base v l) (hs : a.eval s = v) (hx : a.eval x = .slice (some ⟨bx, 0, none⟩) 1 1) (hc : ∀ j u, (cellsK y)[j]? = some u → w.cell? ⟨bx, j, none⟩ = some u)
    (hlen : l.length ≤ 1000000) (hbase : base ≤ w.heap.size)
    (h : ∀ g cap w', OwnRows cellsK 7 119 w' base (.slice (some ⟨g, 0, none⟩) (l.length + 1) cap) (l ++ [y]) → Below base w w' → base ≤ g → (∀ k, k < w.heap.size → some k ≠ v.ownBlock → w'.heap[k]? = w.heap[k]?) → K (a.put o.dst (.slice (some ⟨g, 0, none⟩) (l.length + 1) cap)) w') :
    if Region.wanted o (yielded ops a.tmps) = true then Oper.wp Try.prog o a w K Q else E := by
  obtain ⟨i0, hi, hz0, hz1, hz2⟩ := info_parts Try.info119
  refine step_append_lies w hgd s x 33 ho base 119 i0 _ 7 56 Try.und33 hi hz0 hz1 hz2 rfl (by decide) v l.length (l.flatMap cellsK) hs hown ⟨bx, 0, none⟩ 1 1 (cellsK y) hx rfl ?_ (cellsK_one y) (by decide) (by unfold maxLen; omega) (by omega) hbase w.heap.size rfl ?_
  · intro j u hj
    have e : (⟨bx, 0, none⟩ : Addr).add j = ⟨bx, 0 + j, none⟩ := by unfold Addr.add; split <;> simp_all
    rw [e, Nat.zero_add]; exact hc j u hj
  · intro g cap w' h1 h2 h3 h4
    refine h g cap w' ?_ ?_ ?_ (fun k hk hne => h2.block k hk hne)
    · unfold OwnRows
      simpa using h1
    · refine (Below.refl base w).grown h2 hbase ?_
      intro k hk
      exact (World.ownsRow.lt hown k hk).1
    · rcases h3 with h3 | rfl
      · exact (World.ownsRow.lt hown g h3).1
      · exact hbase
def StormPost (s : Sto) (w : World) : Ending → World → Prop := fun e w' => ∃ q m d, e = .returned (.agg #[.int .i64 s.wide, .int .i64 s.high, .int .i64 s.fall, .int .i64 s.a.lo, .int .i64 s.a.hi, .int .i64 s.b.lo, .int .i64 s.b.hi, .int .i64 s.half.lo, .int .i64 s.half.hi, .int .i64 s.peak.lo, .int .i64 s.peak.hi, .slice q m d]) ∧ CrdsAt w' q m s.cards ∧ Below w.heap.size w w'
theorem take_snoc {α : Type} {l : List α} {k : Nat} {a : α} (h : l[k]? = some a) : l.take (k + 1) = l.take k ++ [a] := by rw [List.take_add_one, h]; rfl

set_option maxRecDepth 40000 in
set_option maxHeartbeats 8000000 in
theorem storm20_any (s : Sto) (p : Option Addr) (n c : Nat) (w : World) (hcs : CrdsAt w p n s.cards) (hn : n ≤ 1000) :
    Calls Try.prog 20 #[.agg #[.int .i64 s.wide, .int .i64 s.high, .int .i64 s.fall, .int .i64 s.a.lo, .int .i64 s.a.hi, .int .i64 s.b.lo, .int .i64 s.b.hi, .int .i64 s.half.lo, .int .i64 s.half.hi, .int .i64 s.peak.lo, .int .i64 s.peak.hi, .slice p n c]] w (StormPost s w) := by
  have HCS := hid (crds_iff.1 hcs)
  have HL := hid hcs.1
  clear hcs
  obtain ⟨W0, hW0⟩ : ∃ V, (w.alloc (.cells #[.int .i64 s.wide, .int .i64 s.high, .int .i64 s.fall, .int .i64 s.a.lo, .int .i64 s.a.hi, .int .i64 s.b.lo, .int .i64 s.b.hi, .int .i64 s.half.lo, .int .i64 s.half.hi, .int .i64 s.peak.lo, .int .i64 s.peak.hi, .slice p n c] 26)).alloc (.cells #[.int .i64 0, .int .i64 0, .int .i64 0, .int .i64 0, .int .i64 0, .int .i64 0, .int .i64 0, .int .i64 0, .int .i64 0, .int .i64 0, .int .i64 0, .slice none 0 0] 35) = V := ⟨_, rfl⟩
  have HB0 : Hid (Boxed1 w #[.int .i64 s.wide, .int .i64 s.high, .int .i64 s.fall, .int .i64 s.a.lo, .int .i64 s.a.hi, .int .i64 s.b.lo, .int .i64 s.b.hi, .int .i64 s.half.lo, .int .i64 s.half.hi, .int .i64 s.peak.lo, .int .i64 s.peak.hi, .slice p n c] 26 W0.drew) := by show Boxed1 _ _ _ _; rw [← hW0]; exact ((Boxed1.start _ _ _).alloc _).drew
  have HO : Hid (BoxIs (w.heap.size + 1) #[.int .i64 0, .int .i64 0, .int .i64 0, .int .i64 0, .int .i64 0, .int .i64 0, .int .i64 0, .int .i64 0, .int .i64 0, .int .i64 0, .int .i64 0, .slice none 0 0] W0.drew) := by
    show BoxIs _ _ _
    have h := BoxIs.start (w.alloc (.cells #[.int .i64 s.wide, .int .i64 s.high, .int .i64 s.fall, .int .i64 s.a.lo, .int .i64 s.a.hi, .int .i64 s.b.lo, .int .i64 s.b.hi, .int .i64 s.half.lo, .int .i64 s.half.hi, .int .i64 s.peak.lo, .int .i64 s.peak.hi, .slice p n c] 26)) #[.int .i64 0, .int .i64 0, .int .i64 0, .int .i64 0, .int .i64 0, .int .i64 0, .int .i64 0, .int .i64 0, .int .i64 0, .int .i64 0, .int .i64 0, .slice none 0 0] 35
    rw [World.size_alloc, hW0] at h; exact h.below (Below.refl _ _).drew
  go_enter Try.func20, Try.ntmps20
  go_upto_region 1 with fail
  clear hW0
  go_cut [3] from 6 (fun a3 wr => ∃ b, a3 = .pointer (some ⟨b, 0, none⟩) ∧ BoxIs b #[.int .i64 s.wide, .int .i64 s.high, .int .i64 s.fall, .int .i64 s.a.lo, .int .i64 s.a.hi, .int .i64 s.b.lo, .int .i64 s.b.hi, .int .i64 s.half.lo, .int .i64 s.half.hi, .int .i64 s.peak.lo, .int .i64 s.peak.hi, .slice none 0 0] wr ∧ Boxed1 w #[.int .i64 s.wide, .int .i64 s.high, .int .i64 s.fall, .int .i64 s.a.lo, .int .i64 s.a.hi, .int .i64 s.b.lo, .int .i64 s.b.hi, .int .i64 s.half.lo, .int .i64 s.half.hi, .int .i64 s.peak.lo, .int .i64 s.peak.hi, .slice p n c] 26 wr ∧ BoxIs (w.heap.size + 1) #[.int .i64 0, .int .i64 0, .int .i64 0, .int .i64 0, .int .i64 0, .int .i64 0, .int .i64 0, .int .i64 0, .int .i64 0, .int .i64 0, .int .i64 0, .slice none 0 0] wr ∧ w.heap.size + 1 < b)
  case first =>
    refine wp_region_held_drew (S := fun V => Boxed1 w #[.int .i64 s.wide, .int .i64 s.high, .int .i64 s.fall, .int .i64 s.a.lo, .int .i64 s.a.hi, .int .i64 s.b.lo, .int .i64 s.b.hi, .int .i64 s.half.lo, .int .i64 s.half.hi, .int .i64 s.peak.lo, .int .i64 s.peak.hi, .slice p n c] 26 V) (by kernel_rfl) (HB0.out) (fun hS => ?_)
    simp only [List.size_toArray, List.length_cons, List.length_nil, Nat.reduceAdd, Array.replicate_succ, Array.replicate_zero, List.push_toArray, List.nil_append, List.cons_append]
    generalize W0.drew = D0 at HO hS ⊢
    refine tkH (i := 0) (v := ?_) (fun V hV => ?_) ?_
    rotate_left
    · go_simp
      try with_reducible rfl
    try simp only [Act.put, List.getElem_toArray, List.getElem_cons_zero, List.setIfInBounds_toArray, List.set_cons_zero, List.set_cons_succ]
    refine tkH (i := 1) (v := ?_) (fun V hV => ?_) ?_
    rotate_left
    · have e0 := (StoAt.of hV.cell).c0; have e1 := (StoAt.of hV.cell).c1; have e2 := (StoAt.of hV.cell).c2; have e3 := (StoAt.of hV.cell).c3; have e4 := (StoAt.of hV.cell).c4; have e5 := (StoAt.of hV.cell).c5; have e6 := (StoAt.of hV.cell).c6; have e7 := (StoAt.of hV.cell).c7; have e8 := (StoAt.of hV.cell).c8; have e9 := (StoAt.of hV.cell).c9; have e10 := (StoAt.of hV.cell).c10; go_simp
      try with_reducible rfl
    try simp only [Act.put, List.getElem_toArray, List.getElem_cons_zero, List.getElem_cons_succ, List.setIfInBounds_toArray, List.set_cons_zero, List.set_cons_succ]
    refine tkH (i := 2) (v := ?_) (fun V hV => ?_) ?_
    rotate_left
    · go_simp
      try with_reducible rfl
    try simp only [Act.put, List.getElem_toArray, List.getElem_cons_zero, List.getElem_cons_succ, List.setIfInBounds_toArray, List.set_cons_zero, List.set_cons_succ]
    refine tkH (i := 3) (v := ?_) (fun V hV => ?_) ?_
    rotate_left
    · have e0 := (StoAt.of hV.cell).c0; have e1 := (StoAt.of hV.cell).c1; have e2 := (StoAt.of hV.cell).c2; have e3 := (StoAt.of hV.cell).c3; have e4 := (StoAt.of hV.cell).c4; have e5 := (StoAt.of hV.cell).c5; have e6 := (StoAt.of hV.cell).c6; have e7 := (StoAt.of hV.cell).c7; have e8 := (StoAt.of hV.cell).c8; have e9 := (StoAt.of hV.cell).c9; have e10 := (StoAt.of hV.cell).c10; go_simp
      try with_reducible rfl
    try simp only [Act.put, List.getElem_toArray, List.getElem_cons_zero, List.getElem_cons_succ, List.setIfInBounds_toArray, List.set_cons_zero, List.set_cons_succ]
    refine tkH (i := 4) (v := ?_) (fun V hV => ?_) ?_
    rotate_left
    · go_simp
      try with_reducible rfl
    try simp only [Act.put, List.getElem_toArray, List.getElem_cons_zero, List.getElem_cons_succ, List.setIfInBounds_toArray, List.set_cons_zero, List.set_cons_succ]
    refine tkH (i := 5) (v := ?_) (fun V hV => ?_) ?_
    rotate_left
    · have e0 := (StoAt.of hV.cell).c0; have e1 := (StoAt.of hV.cell).c1; have e2 := (StoAt.of hV.cell).c2; have e3 := (StoAt.of hV.cell).c3; have e4 := (StoAt.of hV.cell).c4; have e5 := (StoAt.of hV.cell).c5; have e6 := (StoAt.of hV.cell).c6; have e7 := (StoAt.of hV.cell).c7; have e8 := (StoAt.of hV.cell).c8; have e9 := (StoAt.of hV.cell).c9; have e10 := (StoAt.of hV.cell).c10; go_simp
      try with_reducible rfl
    try simp only [Act.put, List.getElem_toArray, List.getElem_cons_zero, List.getElem_cons_succ, List.setIfInBounds_toArray, List.set_cons_zero, List.set_cons_succ]
    refine tkH (i := 6) (v := ?_) (fun V hV => ?_) ?_
    rotate_left
    · go_simp
      try with_reducible rfl
    try simp only [Act.put, List.getElem_toArray, List.getElem_cons_zero, List.getElem_cons_succ, List.setIfInBounds_toArray, List.set_cons_zero, List.set_cons_succ]
    refine tkH (i := 7) (v := ?_) (fun V hV => ?_) ?_
    rotate_left
    · have e0 := (StoAt.of hV.cell).c0; have e1 := (StoAt.of hV.cell).c1; have e2 := (StoAt.of hV.cell).c2; have e3 := (StoAt.of hV.cell).c3; have e4 := (StoAt.of hV.cell).c4; have e5 := (StoAt.of hV.cell).c5; have e6 := (StoAt.of hV.cell).c6; have e7 := (StoAt.of hV.cell).c7; have e8 := (StoAt.of hV.cell).c8; have e9 := (StoAt.of hV.cell).c9; have e10 := (StoAt.of hV.cell).c10; go_simp
      try with_reducible rfl
    try simp only [Act.put, List.getElem_toArray, List.getElem_cons_zero, List.getElem_cons_succ, List.setIfInBounds_toArray, List.set_cons_zero, List.set_cons_succ]
    refine tkH (i := 9) (v := ?_) (fun V hV => ?_) ?_
    rotate_left
    · go_simp
      try with_reducible rfl
    try simp only [Act.put, List.getElem_toArray, List.getElem_cons_zero, List.getElem_cons_succ, List.setIfInBounds_toArray, List.set_cons_zero, List.set_cons_succ]
    refine tkH (i := 10) (v := ?_) (fun V hV => ?_) ?_
    rotate_left
    · have e0 := (StoAt.of hV.cell).c0; have e1 := (StoAt.of hV.cell).c1; have e2 := (StoAt.of hV.cell).c2; have e3 := (StoAt.of hV.cell).c3; have e4 := (StoAt.of hV.cell).c4; have e5 := (StoAt.of hV.cell).c5; have e6 := (StoAt.of hV.cell).c6; have e7 := (StoAt.of hV.cell).c7; have e8 := (StoAt.of hV.cell).c8; have e9 := (StoAt.of hV.cell).c9; have e10 := (StoAt.of hV.cell).c10; go_simp
      try with_reducible rfl
    try simp only [Act.put, List.getElem_toArray, List.getElem_cons_zero, List.getElem_cons_succ, List.setIfInBounds_toArray, List.set_cons_zero, List.set_cons_succ]
    refine tkH (i := 12) (v := ?_) (fun V hV => ?_) ?_
    rotate_left
    · go_simp
      try with_reducible rfl
    try simp only [Act.put, List.getElem_toArray, List.getElem_cons_zero, List.getElem_cons_succ, List.setIfInBounds_toArray, List.set_cons_zero, List.set_cons_succ]
    refine tkH (i := 13) (v := ?_) (fun V hV => ?_) ?_
    rotate_left
    · have e0 := (StoAt.of hV.cell).c0; have e1 := (StoAt.of hV.cell).c1; have e2 := (StoAt.of hV.cell).c2; have e3 := (StoAt.of hV.cell).c3; have e4 := (StoAt.of hV.cell).c4; have e5 := (StoAt.of hV.cell).c5; have e6 := (StoAt.of hV.cell).c6; have e7 := (StoAt.of hV.cell).c7; have e8 := (StoAt.of hV.cell).c8; have e9 := (StoAt.of hV.cell).c9; have e10 := (StoAt.of hV.cell).c10; go_simp
      try with_reducible rfl
    try simp only [Act.put, List.getElem_toArray, List.getElem_cons_zero, List.getElem_cons_succ, List.setIfInBounds_toArray, List.set_cons_zero, List.set_cons_succ]
    refine tkH (i := 15) (v := ?_) (fun V hV => ?_) ?_
    rotate_left
    · go_simp
      try with_reducible rfl
    try simp only [Act.put, List.getElem_toArray, List.getElem_cons_zero, List.getElem_cons_succ, List.setIfInBounds_toArray, List.set_cons_zero, List.set_cons_succ]
    refine tkH (i := 16) (v := ?_) (fun V hV => ?_) ?_
    rotate_left
    · have e0 := (StoAt.of hV.cell).c0; have e1 := (StoAt.of hV.cell).c1; have e2 := (StoAt.of hV.cell).c2; have e3 := (StoAt.of hV.cell).c3; have e4 := (StoAt.of hV.cell).c4; have e5 := (StoAt.of hV.cell).c5; have e6 := (StoAt.of hV.cell).c6; have e7 := (StoAt.of hV.cell).c7; have e8 := (StoAt.of hV.cell).c8; have e9 := (StoAt.of hV.cell).c9; have e10 := (StoAt.of hV.cell).c10; go_simp
      try with_reducible rfl
    try simp only [Act.put, List.getElem_toArray, List.getElem_cons_zero, List.getElem_cons_succ, List.setIfInBounds_toArray, List.set_cons_zero, List.set_cons_succ]
    refine wpAnyH_ready (rs := [8, 19]) (by kernel_rfl) (by simp) ?_
    refine AllReadyH.cons (o := _) rfl (fun K hK => ?_) ?_
    · skip
      go_simp
      (with_reducible refine (to_any s.a _).mono ?_)
      rintro e v8 ⟨rfl, hb⟩
      have HO := hid (HO.out.below hb)
      refine hK.out _ _ (hS.step hb) (fun hS => ?_)
      clear hK K
      try simp only [List.setIfInBounds_toArray, List.set_cons_zero, List.set_cons_succ]
      refine wpAnyH_ready (rs := [11, 19]) (by kernel_rfl) (by simp) ?_
      refine AllReadyH.cons (o := _) rfl (fun K hK => ?_) ?_
      · skip
        go_simp
        (with_reducible refine (to_any s.b _).mono ?_)
        rintro e v11 ⟨rfl, hb⟩
        have HO := hid (HO.out.below hb)
        refine hK.out _ _ (hS.step hb) (fun hS => ?_)
        clear hK K
        try simp only [List.setIfInBounds_toArray, List.set_cons_zero, List.set_cons_succ]
        refine wpAnyH_ready (rs := [14, 19]) (by kernel_rfl) (by simp) ?_
        refine AllReadyH.cons (o := _) rfl (fun K hK => ?_) ?_
        · skip
          go_simp
          (with_reducible refine (to_any s.half _).mono ?_)
          rintro e v14 ⟨rfl, hb⟩
          have HO := hid (HO.out.below hb)
          refine hK.out _ _ (hS.step hb) (fun hS => ?_)
          clear hK K
          try simp only [List.setIfInBounds_toArray, List.set_cons_zero, List.set_cons_succ]
          refine wpAnyH_ready (rs := [17, 19]) (by kernel_rfl) (by simp) ?_
          refine AllReadyH.cons (o := _) rfl (fun K hK => ?_) ?_
          · skip
            go_simp
            (with_reducible refine (to_any s.peak _).mono ?_)
            rintro e v17 ⟨rfl, hb⟩
            have HO := hid (HO.out.below hb)
            refine hK.out _ _ (hS.step hb) (fun hS => ?_)
            clear hK K
            try simp only [List.setIfInBounds_toArray, List.set_cons_zero, List.set_cons_succ]
            refine tkH (i := 18) (v := ?_) (fun V hV => ?_) ?_
            rotate_left
            · go_simp
              try with_reducible rfl
            try simp only [Act.put, List.getElem_toArray, List.getElem_cons_zero, List.getElem_cons_succ, List.setIfInBounds_toArray, List.set_cons_zero, List.set_cons_succ]
            refine wpAnyH_ready (rs := [19]) (by kernel_rfl) (by simp) ?_
            refine AllReadyH.cons (o := _) rfl (fun K hK => ?_) AllReadyH.nil
            obtain ⟨v19, hv19⟩ : ∃ V, v17.alloc (.cells #[.int .i64 0, .int .i64 0, .int .i64 0, .int .i64 0, .int .i64 0, .int .i64 0, .int .i64 0, .int .i64 0, .int .i64 0, .int .i64 0, .int .i64 0, .slice none 0 0] 35) = V := ⟨_, rfl⟩
            have hb : Below v17.heap.size v17 v19 := by rw [← hv19]; exact (Below.refl _ _).alloc (Nat.le_refl _) _
            have HX3 : Hid (BoxIs v17.heap.size #[.int .i64 0, .int .i64 0, .int .i64 0, .int .i64 0, .int .i64 0, .int .i64 0, .int .i64 0, .int .i64 0, .int .i64 0, .int .i64 0, .int .i64 0, .slice none 0 0] v19) := by show BoxIs _ _ _; rw [← hv19]; exact BoxIs.start _ _ _
            have HZ3 : Hid (w.heap.size + 1 < v17.heap.size) := hid HO.out.1
            have HO := hid (HO.out.below hb)
            go_simp
            refine hK.out _ _ (hS.step hb) (fun hS => ?_)
            clear hK K
            try simp only [List.setIfInBounds_toArray, List.set_cons_zero, List.set_cons_succ]
            refine wpAnyH_ready (rs := [20]) (by kernel_rfl) (by simp) ?_
            refine AllReadyH.cons (o := _) rfl (fun K hK => ?_) AllReadyH.nil
            have k0 := (HX3.out.2 0 (.int .i64 0) rfl).1; have f0 := (HX3.out.2 0 (.int .i64 0) rfl).2
            have k1 := (HX3.out.2 1 (.int .i64 0) rfl).1; have f1 := (HX3.out.2 1 (.int .i64 0) rfl).2
            have k2 := (HX3.out.2 2 (.int .i64 0) rfl).1; have f2 := (HX3.out.2 2 (.int .i64 0) rfl).2
            have k3 := (HX3.out.2 3 (.int .i64 0) rfl).1; have f3 := (HX3.out.2 3 (.int .i64 0) rfl).2
            have k4 := (HX3.out.2 4 (.int .i64 0) rfl).1; have f4 := (HX3.out.2 4 (.int .i64 0) rfl).2
            have k5 := (HX3.out.2 5 (.int .i64 0) rfl).1; have f5 := (HX3.out.2 5 (.int .i64 0) rfl).2
            have k6 := (HX3.out.2 6 (.int .i64 0) rfl).1; have f6 := (HX3.out.2 6 (.int .i64 0) rfl).2
            have k7 := (HX3.out.2 7 (.int .i64 0) rfl).1; have f7 := (HX3.out.2 7 (.int .i64 0) rfl).2
            have k8 := (HX3.out.2 8 (.int .i64 0) rfl).1; have f8 := (HX3.out.2 8 (.int .i64 0) rfl).2
            have k9 := (HX3.out.2 9 (.int .i64 0) rfl).1; have f9 := (HX3.out.2 9 (.int .i64 0) rfl).2
            have k10 := (HX3.out.2 10 (.int .i64 0) rfl).1; have f10 := (HX3.out.2 10 (.int .i64 0) rfl).2
            have k11 := (HX3.out.2 11 (.slice none 0 0) rfl).1; have f11 := (HX3.out.2 11 (.slice none 0 0) rfl).2
            have HX9 := hid (HX3.out.put12 (.int .i64 s.wide) (.int .i64 s.high) (.int .i64 s.fall) (.int .i64 s.a.lo) (.int .i64 s.a.hi) (.int .i64 s.b.lo) (.int .i64 s.b.hi) (.int .i64 s.half.lo) (.int .i64 s.half.hi) (.int .i64 s.peak.lo) (.int .i64 s.peak.hi) (.slice none 0 0))
            have HN9 := hid (near_put12 (S := fun k => k = v17.heap.size) (Near.refl _ v19) rfl (.int .i64 s.wide) (.int .i64 s.high) (.int .i64 s.fall) (.int .i64 s.a.lo) (.int .i64 s.a.hi) (.int .i64 s.b.lo) (.int .i64 s.b.hi) (.int .i64 s.half.lo) (.int .i64 s.half.hi) (.int .i64 s.peak.lo) (.int .i64 s.peak.hi) (.slice none 0 0))
            have HS4 := hid hS
            clear hS
            go_simp
            clear k0 f0 k1 f1 k2 f2 k3 f3 k4 f4 k5 f5 k6 f6 k7 f7 k8 f8 k9 f9 k10 f10 k11 f11
            generalize ((((((((((((v19.setCell ⟨v17.heap.size, 0, none⟩ (.int .i64 s.wide)).setCell ⟨v17.heap.size, 1, none⟩ (.int .i64 s.high)).setCell ⟨v17.heap.size, 2, none⟩ (.int .i64 s.fall)).setCell ⟨v17.heap.size, 3, none⟩ (.int .i64 s.a.lo)).setCell ⟨v17.heap.size, 4, none⟩ (.int .i64 s.a.hi)).setCell ⟨v17.heap.size, 5, none⟩ (.int .i64 s.b.lo)).setCell ⟨v17.heap.size, 6, none⟩ (.int .i64 s.b.hi)).setCell ⟨v17.heap.size, 7, none⟩ (.int .i64 s.half.lo)).setCell ⟨v17.heap.size, 8, none⟩ (.int .i64 s.half.hi)).setCell ⟨v17.heap.size, 9, none⟩ (.int .i64 s.peak.lo)).setCell ⟨v17.heap.size, 10, none⟩ (.int .i64 s.peak.hi)).setCell ⟨v17.heap.size, 11, none⟩ (.slice none 0 0)) = V9 at HX9 HN9 ⊢
            have HS9 := hid (HS4.out.step' (HN9.out.below (B := w.heap.size + 1) HS4.out.size (fun k h1 h2 => by have := HZ3.out; omega)))
            have HO9 := hid (HO.out.near HN9.out (by have := HZ3.out; omega))
            refine hK.out _ _ (HS9.out) (fun hS => ?_)
            clear hK K
            try simp only [List.setIfInBounds_toArray, List.set_cons_zero, List.set_cons_succ]
            refine wpAnyH_done (by kernel_rfl) ?_ _
            clear hS
            go_wp2
            go_meet
            case rel => exact ⟨_, rfl, HX9.out, HS9.out, HO9.out, HZ3.out⟩
          refine AllReadyH.cons (o := _) rfl (fun K hK => ?_) AllReadyH.nil
          obtain ⟨v19, hv19⟩ : ∃ V, v14.alloc (.cells #[.int .i64 0, .int .i64 0, .int .i64 0, .int .i64 0, .int .i64 0, .int .i64 0, .int .i64 0, .int .i64 0, .int .i64 0, .int .i64 0, .int .i64 0, .slice none 0 0] 35) = V := ⟨_, rfl⟩
          have hb : Below v14.heap.size v14 v19 := by rw [← hv19]; exact (Below.refl _ _).alloc (Nat.le_refl _) _
          have HX3 : Hid (BoxIs v14.heap.size #[.int .i64 0, .int .i64 0, .int .i64 0, .int .i64 0, .int .i64 0, .int .i64 0, .int .i64 0, .int .i64 0, .int .i64 0, .int .i64 0, .int .i64 0, .slice none 0 0] v19) := by show BoxIs _ _ _; rw [← hv19]; exact BoxIs.start _ _ _
          have HZ3 : Hid (w.heap.size + 1 < v14.heap.size) := hid HO.out.1
          have HO := hid (HO.out.below hb)
          go_simp
          refine hK.out _ _ (hS.step hb) (fun hS => ?_)
          clear hK K
          try simp only [List.setIfInBounds_toArray, List.set_cons_zero, List.set_cons_succ]
          refine wpAnyH_ready (rs := [17]) (by kernel_rfl) (by simp) ?_
          refine AllReadyH.cons (o := _) rfl (fun K hK => ?_) AllReadyH.nil
          go_simp
          (with_reducible refine (to_any s.peak _).mono ?_)
          rintro e v17 ⟨rfl, hb⟩
          have HX3 := hid (HX3.out.below hb)
          have HO := hid (HO.out.below hb)
          refine hK.out _ _ (hS.step hb) (fun hS => ?_)
          clear hK K
          try simp only [List.setIfInBounds_toArray, List.set_cons_zero, List.set_cons_succ]
          refine tkH (i := 18) (v := ?_) (fun V hV => ?_) ?_
          rotate_left
          · go_simp
            try with_reducible rfl
          try simp only [Act.put, List.getElem_toArray, List.getElem_cons_zero, List.getElem_cons_succ, List.setIfInBounds_toArray, List.set_cons_zero, List.set_cons_succ]
          refine wpAnyH_ready (rs := [20]) (by kernel_rfl) (by simp) ?_
          refine AllReadyH.cons (o := _) rfl (fun K hK => ?_) AllReadyH.nil
          have k0 := (HX3.out.2 0 (.int .i64 0) rfl).1; have f0 := (HX3.out.2 0 (.int .i64 0) rfl).2
          have k1 := (HX3.out.2 1 (.int .i64 0) rfl).1; have f1 := (HX3.out.2 1 (.int .i64 0) rfl).2
          have k2 := (HX3.out.2 2 (.int .i64 0) rfl).1; have f2 := (HX3.out.2 2 (.int .i64 0) rfl).2
          have k3 := (HX3.out.2 3 (.int .i64 0) rfl).1; have f3 := (HX3.out.2 3 (.int .i64 0) rfl).2
          have k4 := (HX3.out.2 4 (.int .i64 0) rfl).1; have f4 := (HX3.out.2 4 (.int .i64 0) rfl).2
          have k5 := (HX3.out.2 5 (.int .i64 0) rfl).1; have f5 := (HX3.out.2 5 (.int .i64 0) rfl).2
          have k6 := (HX3.out.2 6 (.int .i64 0) rfl).1; have f6 := (HX3.out.2 6 (.int .i64 0) rfl).2
          have k7 := (HX3.out.2 7 (.int .i64 0) rfl).1; have f7 := (HX3.out.2 7 (.int .i64 0) rfl).2
          have k8 := (HX3.out.2 8 (.int .i64 0) rfl).1; have f8 := (HX3.out.2 8 (.int .i64 0) rfl).2
          have k9 := (HX3.out.2 9 (.int .i64 0) rfl).1; have f9 := (HX3.out.2 9 (.int .i64 0) rfl).2
          have k10 := (HX3.out.2 10 (.int .i64 0) rfl).1; have f10 := (HX3.out.2 10 (.int .i64 0) rfl).2
          have k11 := (HX3.out.2 11 (.slice none 0 0) rfl).1; have f11 := (HX3.out.2 11 (.slice none 0 0) rfl).2
          have HX9 := hid (HX3.out.put12 (.int .i64 s.wide) (.int .i64 s.high) (.int .i64 s.fall) (.int .i64 s.a.lo) (.int .i64 s.a.hi) (.int .i64 s.b.lo) (.int .i64 s.b.hi) (.int .i64 s.half.lo) (.int .i64 s.half.hi) (.int .i64 s.peak.lo) (.int .i64 s.peak.hi) (.slice none 0 0))
          have HN9 := hid (near_put12 (S := fun k => k = v14.heap.size) (Near.refl _ v17) rfl (.int .i64 s.wide) (.int .i64 s.high) (.int .i64 s.fall) (.int .i64 s.a.lo) (.int .i64 s.a.hi) (.int .i64 s.b.lo) (.int .i64 s.b.hi) (.int .i64 s.half.lo) (.int .i64 s.half.hi) (.int .i64 s.peak.lo) (.int .i64 s.peak.hi) (.slice none 0 0))
          have HS4 := hid hS
          clear hS
          go_simp
          clear k0 f0 k1 f1 k2 f2 k3 f3 k4 f4 k5 f5 k6 f6 k7 f7 k8 f8 k9 f9 k10 f10 k11 f11
          generalize ((((((((((((v17.setCell ⟨v14.heap.size, 0, none⟩ (.int .i64 s.wide)).setCell ⟨v14.heap.size, 1, none⟩ (.int .i64 s.high)).setCell ⟨v14.heap.size, 2, none⟩ (.int .i64 s.fall)).setCell ⟨v14.heap.size, 3, none⟩ (.int .i64 s.a.lo)).setCell ⟨v14.heap.size, 4, none⟩ (.int .i64 s.a.hi)).setCell ⟨v14.heap.size, 5, none⟩ (.int .i64 s.b.lo)).setCell ⟨v14.heap.size, 6, none⟩ (.int .i64 s.b.hi)).setCell ⟨v14.heap.size, 7, none⟩ (.int .i64 s.half.lo)).setCell ⟨v14.heap.size, 8, none⟩ (.int .i64 s.half.hi)).setCell ⟨v14.heap.size, 9, none⟩ (.int .i64 s.peak.lo)).setCell ⟨v14.heap.size, 10, none⟩ (.int .i64 s.peak.hi)).setCell ⟨v14.heap.size, 11, none⟩ (.slice none 0 0)) = V9 at HX9 HN9 ⊢
          have HS9 := hid (HS4.out.step' (HN9.out.below (B := w.heap.size + 1) HS4.out.size (fun k h1 h2 => by have := HZ3.out; omega)))
          have HO9 := hid (HO.out.near HN9.out (by have := HZ3.out; omega))
          refine hK.out _ _ (HS9.out) (fun hS => ?_)
          clear hK K
          try simp only [List.setIfInBounds_toArray, List.set_cons_zero, List.set_cons_succ]
          refine wpAnyH_done (by kernel_rfl) ?_ _
          clear hS
          go_wp2
          go_meet
          case rel => exact ⟨_, rfl, HX9.out, HS9.out, HO9.out, HZ3.out⟩
        refine AllReadyH.cons (o := _) rfl (fun K hK => ?_) AllReadyH.nil
        obtain ⟨v19, hv19⟩ : ∃ V, v11.alloc (.cells #[.int .i64 0, .int .i64 0, .int .i64 0, .int .i64 0, .int .i64 0, .int .i64 0, .int .i64 0, .int .i64 0, .int .i64 0, .int .i64 0, .int .i64 0, .slice none 0 0] 35) = V := ⟨_, rfl⟩
        have hb : Below v11.heap.size v11 v19 := by rw [← hv19]; exact (Below.refl _ _).alloc (Nat.le_refl _) _
        have HX3 : Hid (BoxIs v11.heap.size #[.int .i64 0, .int .i64 0, .int .i64 0, .int .i64 0, .int .i64 0, .int .i64 0, .int .i64 0, .int .i64 0, .int .i64 0, .int .i64 0, .int .i64 0, .slice none 0 0] v19) := by show BoxIs _ _ _; rw [← hv19]; exact BoxIs.start _ _ _
        have HZ3 : Hid (w.heap.size + 1 < v11.heap.size) := hid HO.out.1
        have HO := hid (HO.out.below hb)
        go_simp
        refine hK.out _ _ (hS.step hb) (fun hS => ?_)
        clear hK K
        try simp only [List.setIfInBounds_toArray, List.set_cons_zero, List.set_cons_succ]
        refine wpAnyH_ready (rs := [14]) (by kernel_rfl) (by simp) ?_
        refine AllReadyH.cons (o := _) rfl (fun K hK => ?_) AllReadyH.nil
        go_simp
        (with_reducible refine (to_any s.half _).mono ?_)
        rintro e v14 ⟨rfl, hb⟩
        have HX3 := hid (HX3.out.below hb)
        have HO := hid (HO.out.below hb)
        refine hK.out _ _ (hS.step hb) (fun hS => ?_)
        clear hK K
        try simp only [List.setIfInBounds_toArray, List.set_cons_zero, List.set_cons_succ]
        refine wpAnyH_ready (rs := [17]) (by kernel_rfl) (by simp) ?_
        refine AllReadyH.cons (o := _) rfl (fun K hK => ?_) AllReadyH.nil
        go_simp
        (with_reducible refine (to_any s.peak _).mono ?_)
        rintro e v17 ⟨rfl, hb⟩
        have HX3 := hid (HX3.out.below hb)
        have HO := hid (HO.out.below hb)
        refine hK.out _ _ (hS.step hb) (fun hS => ?_)
        clear hK K
        try simp only [List.setIfInBounds_toArray, List.set_cons_zero, List.set_cons_succ]
        refine tkH (i := 18) (v := ?_) (fun V hV => ?_) ?_
        rotate_left
        · go_simp
          try with_reducible rfl
        try simp only [Act.put, List.getElem_toArray, List.getElem_cons_zero, List.getElem_cons_succ, List.setIfInBounds_toArray, List.set_cons_zero, List.set_cons_succ]
        refine wpAnyH_ready (rs := [20]) (by kernel_rfl) (by simp) ?_
        refine AllReadyH.cons (o := _) rfl (fun K hK => ?_) AllReadyH.nil
        have k0 := (HX3.out.2 0 (.int .i64 0) rfl).1; have f0 := (HX3.out.2 0 (.int .i64 0) rfl).2
        have k1 := (HX3.out.2 1 (.int .i64 0) rfl).1; have f1 := (HX3.out.2 1 (.int .i64 0) rfl).2
        have k2 := (HX3.out.2 2 (.int .i64 0) rfl).1; have f2 := (HX3.out.2 2 (.int .i64 0) rfl).2
        have k3 := (HX3.out.2 3 (.int .i64 0) rfl).1; have f3 := (HX3.out.2 3 (.int .i64 0) rfl).2
        have k4 := (HX3.out.2 4 (.int .i64 0) rfl).1; have f4 := (HX3.out.2 4 (.int .i64 0) rfl).2
        have k5 := (HX3.out.2 5 (.int .i64 0) rfl).1; have f5 := (HX3.out.2 5 (.int .i64 0) rfl).2
        have k6 := (HX3.out.2 6 (.int .i64 0) rfl).1; have f6 := (HX3.out.2 6 (.int .i64 0) rfl).2
        have k7 := (HX3.out.2 7 (.int .i64 0) rfl).1; have f7 := (HX3.out.2 7 (.int .i64 0) rfl).2
        have k8 := (HX3.out.2 8 (.int .i64 0) rfl).1; have f8 := (HX3.out.2 8 (.int .i64 0) rfl).2
        have k9 := (HX3.out.2 9 (.int .i64 0) rfl).1; have f9 := (HX3.out.2 9 (.int .i64 0) rfl).2
        have k10 := (HX3.out.2 10 (.int .i64 0) rfl).1; have f10 := (HX3.out.2 10 (.int .i64 0) rfl).2
        have k11 := (HX3.out.2 11 (.slice none 0 0) rfl).1; have f11 := (HX3.out.2 11 (.slice none 0 0) rfl).2
        have HX9 := hid (HX3.out.put12 (.int .i64 s.wide) (.int .i64 s.high) (.int .i64 s.fall) (.int .i64 s.a.lo) (.int .i64 s.a.hi) (.int .i64 s.b.lo) (.int .i64 s.b.hi) (.int .i64 s.half.lo) (.int .i64 s.half.hi) (.int .i64 s.peak.lo) (.int .i64 s.peak.hi) (.slice none 0 0))
        have HN9 := hid (near_put12 (S := fun k => k = v11.heap.size) (Near.refl _ v17) rfl (.int .i64 s.wide) (.int .i64 s.high) (.int .i64 s.fall) (.int .i64 s.a.lo) (.int .i64 s.a.hi) (.int .i64 s.b.lo) (.int .i64 s.b.hi) (.int .i64 s.half.lo) (.int .i64 s.half.hi) (.int .i64 s.peak.lo) (.int .i64 s.peak.hi) (.slice none 0 0))
        have HS4 := hid hS
        clear hS
        go_simp
        clear k0 f0 k1 f1 k2 f2 k3 f3 k4 f4 k5 f5 k6 f6 k7 f7 k8 f8 k9 f9 k10 f10 k11 f11
        generalize ((((((((((((v17.setCell ⟨v11.heap.size, 0, none⟩ (.int .i64 s.wide)).setCell ⟨v11.heap.size, 1, none⟩ (.int .i64 s.high)).setCell ⟨v11.heap.size, 2, none⟩ (.int .i64 s.fall)).setCell ⟨v11.heap.size, 3, none⟩ (.int .i64 s.a.lo)).setCell ⟨v11.heap.size, 4, none⟩ (.int .i64 s.a.hi)).setCell ⟨v11.heap.size, 5, none⟩ (.int .i64 s.b.lo)).setCell ⟨v11.heap.size, 6, none⟩ (.int .i64 s.b.hi)).setCell ⟨v11.heap.size, 7, none⟩ (.int .i64 s.half.lo)).setCell ⟨v11.heap.size, 8, none⟩ (.int .i64 s.half.hi)).setCell ⟨v11.heap.size, 9, none⟩ (.int .i64 s.peak.lo)).setCell ⟨v11.heap.size, 10, none⟩ (.int .i64 s.peak.hi)).setCell ⟨v11.heap.size, 11, none⟩ (.slice none 0 0)) = V9 at HX9 HN9 ⊢
        have HS9 := hid (HS4.out.step' (HN9.out.below (B := w.heap.size + 1) HS4.out.size (fun k h1 h2 => by have := HZ3.out; omega)))
        have HO9 := hid (HO.out.near HN9.out (by have := HZ3.out; omega))
        refine hK.out _ _ (HS9.out) (fun hS => ?_)
        clear hK K
        try simp only [List.setIfInBounds_toArray, List.set_cons_zero, List.set_cons_succ]
        refine wpAnyH_done (by kernel_rfl) ?_ _
        clear hS
        go_wp2
        go_meet
        case rel => exact ⟨_, rfl, HX9.out, HS9.out, HO9.out, HZ3.out⟩
      refine AllReadyH.cons (o := _) rfl (fun K hK => ?_) AllReadyH.nil
      obtain ⟨v19, hv19⟩ : ∃ V, v8.alloc (.cells #[.int .i64 0, .int .i64 0, .int .i64 0, .int .i64 0, .int .i64 0, .int .i64 0, .int .i64 0, .int .i64 0, .int .i64 0, .int .i64 0, .int .i64 0, .slice none 0 0] 35) = V := ⟨_, rfl⟩
      have hb : Below v8.heap.size v8 v19 := by rw [← hv19]; exact (Below.refl _ _).alloc (Nat.le_refl _) _
      have HX3 : Hid (BoxIs v8.heap.size #[.int .i64 0, .int .i64 0, .int .i64 0, .int .i64 0, .int .i64 0, .int .i64 0, .int .i64 0, .int .i64 0, .int .i64 0, .int .i64 0, .int .i64 0, .slice none 0 0] v19) := by show BoxIs _ _ _; rw [← hv19]; exact BoxIs.start _ _ _
      have HZ3 : Hid (w.heap.size + 1 < v8.heap.size) := hid HO.out.1
      have HO := hid (HO.out.below hb)
      go_simp
      refine hK.out _ _ (hS.step hb) (fun hS => ?_)
      clear hK K
      try simp only [List.setIfInBounds_toArray, List.set_cons_zero, List.set_cons_succ]
      refine wpAnyH_ready (rs := [11]) (by kernel_rfl) (by simp) ?_
      refine AllReadyH.cons (o := _) rfl (fun K hK => ?_) AllReadyH.nil
      go_simp
      (with_reducible refine (to_any s.b _).mono ?_)
      rintro e v11 ⟨rfl, hb⟩
      have HX3 := hid (HX3.out.below hb)
      have HO := hid (HO.out.below hb)
      refine hK.out _ _ (hS.step hb) (fun hS => ?_)
      clear hK K
      try simp only [List.setIfInBounds_toArray, List.set_cons_zero, List.set_cons_succ]
      refine wpAnyH_ready (rs := [14]) (by kernel_rfl) (by simp) ?_
      refine AllReadyH.cons (o := _) rfl (fun K hK => ?_) AllReadyH.nil
      go_simp
      (with_reducible refine (to_any s.half _).mono ?_)
      rintro e v14 ⟨rfl, hb⟩
      have HX3 := hid (HX3.out.below hb)
      have HO := hid (HO.out.below hb)
      refine hK.out _ _ (hS.step hb) (fun hS => ?_)
      clear hK K
      try simp only [List.setIfInBounds_toArray, List.set_cons_zero, List.set_cons_succ]
      refine wpAnyH_ready (rs := [17]) (by kernel_rfl) (by simp) ?_
      refine AllReadyH.cons (o := _) rfl (fun K hK => ?_) AllReadyH.nil
      go_simp
      (with_reducible refine (to_any s.peak _).mono ?_)
      rintro e v17 ⟨rfl, hb⟩
      have HX3 := hid (HX3.out.below hb)
      have HO := hid (HO.out.below hb)
      refine hK.out _ _ (hS.step hb) (fun hS => ?_)
      clear hK K
      try simp only [List.setIfInBounds_toArray, List.set_cons_zero, List.set_cons_succ]
      refine tkH (i := 18) (v := ?_) (fun V hV => ?_) ?_
      rotate_left
      · go_simp
        try with_reducible rfl
      try simp only [Act.put, List.getElem_toArray, List.getElem_cons_zero, List.getElem_cons_succ, List.setIfInBounds_toArray, List.set_cons_zero, List.set_cons_succ]
      refine wpAnyH_ready (rs := [20]) (by kernel_rfl) (by simp) ?_
      refine AllReadyH.cons (o := _) rfl (fun K hK => ?_) AllReadyH.nil
      have k0 := (HX3.out.2 0 (.int .i64 0) rfl).1; have f0 := (HX3.out.2 0 (.int .i64 0) rfl).2
      have k1 := (HX3.out.2 1 (.int .i64 0) rfl).1; have f1 := (HX3.out.2 1 (.int .i64 0) rfl).2
      have k2 := (HX3.out.2 2 (.int .i64 0) rfl).1; have f2 := (HX3.out.2 2 (.int .i64 0) rfl).2
      have k3 := (HX3.out.2 3 (.int .i64 0) rfl).1; have f3 := (HX3.out.2 3 (.int .i64 0) rfl).2
      have k4 := (HX3.out.2 4 (.int .i64 0) rfl).1; have f4 := (HX3.out.2 4 (.int .i64 0) rfl).2
      have k5 := (HX3.out.2 5 (.int .i64 0) rfl).1; have f5 := (HX3.out.2 5 (.int .i64 0) rfl).2
      have k6 := (HX3.out.2 6 (.int .i64 0) rfl).1; have f6 := (HX3.out.2 6 (.int .i64 0) rfl).2
      have k7 := (HX3.out.2 7 (.int .i64 0) rfl).1; have f7 := (HX3.out.2 7 (.int .i64 0) rfl).2
      have k8 := (HX3.out.2 8 (.int .i64 0) rfl).1; have f8 := (HX3.out.2 8 (.int .i64 0) rfl).2
      have k9 := (HX3.out.2 9 (.int .i64 0) rfl).1; have f9 := (HX3.out.2 9 (.int .i64 0) rfl).2
      have k10 := (HX3.out.2 10 (.int .i64 0) rfl).1; have f10 := (HX3.out.2 10 (.int .i64 0) rfl).2
      have k11 := (HX3.out.2 11 (.slice none 0 0) rfl).1; have f11 := (HX3.out.2 11 (.slice none 0 0) rfl).2
      have HX9 := hid (HX3.out.put12 (.int .i64 s.wide) (.int .i64 s.high) (.int .i64 s.fall) (.int .i64 s.a.lo) (.int .i64 s.a.hi) (.int .i64 s.b.lo) (.int .i64 s.b.hi) (.int .i64 s.half.lo) (.int .i64 s.half.hi) (.int .i64 s.peak.lo) (.int .i64 s.peak.hi) (.slice none 0 0))
      have HN9 := hid (near_put12 (S := fun k => k = v8.heap.size) (Near.refl _ v17) rfl (.int .i64 s.wide) (.int .i64 s.high) (.int .i64 s.fall) (.int .i64 s.a.lo) (.int .i64 s.a.hi) (.int .i64 s.b.lo) (.int .i64 s.b.hi) (.int .i64 s.half.lo) (.int .i64 s.half.hi) (.int .i64 s.peak.lo) (.int .i64 s.peak.hi) (.slice none 0 0))
      have HS4 := hid hS
      clear hS
      go_simp
      clear k0 f0 k1 f1 k2 f2 k3 f3 k4 f4 k5 f5 k6 f6 k7 f7 k8 f8 k9 f9 k10 f10 k11 f11
      generalize ((((((((((((v17.setCell ⟨v8.heap.size, 0, none⟩ (.int .i64 s.wide)).setCell ⟨v8.heap.size, 1, none⟩ (.int .i64 s.high)).setCell ⟨v8.heap.size, 2, none⟩ (.int .i64 s.fall)).setCell ⟨v8.heap.size, 3, none⟩ (.int .i64 s.a.lo)).setCell ⟨v8.heap.size, 4, none⟩ (.int .i64 s.a.hi)).setCell ⟨v8.heap.size, 5, none⟩ (.int .i64 s.b.lo)).setCell ⟨v8.heap.size, 6, none⟩ (.int .i64 s.b.hi)).setCell ⟨v8.heap.size, 7, none⟩ (.int .i64 s.half.lo)).setCell ⟨v8.heap.size, 8, none⟩ (.int .i64 s.half.hi)).setCell ⟨v8.heap.size, 9, none⟩ (.int .i64 s.peak.lo)).setCell ⟨v8.heap.size, 10, none⟩ (.int .i64 s.peak.hi)).setCell ⟨v8.heap.size, 11, none⟩ (.slice none 0 0)) = V9 at HX9 HN9 ⊢
      have HS9 := hid (HS4.out.step' (HN9.out.below (B := w.heap.size + 1) HS4.out.size (fun k h1 h2 => by have := HZ3.out; omega)))
      have HO9 := hid (HO.out.near HN9.out (by have := HZ3.out; omega))
      refine hK.out _ _ (HS9.out) (fun hS => ?_)
      clear hK K
      try simp only [List.setIfInBounds_toArray, List.set_cons_zero, List.set_cons_succ]
      refine wpAnyH_done (by kernel_rfl) ?_ _
      clear hS
      go_wp2
      go_meet
      case rel => exact ⟨_, rfl, HX9.out, HS9.out, HO9.out, HZ3.out⟩
    refine AllReadyH.cons (o := _) rfl (fun K hK => ?_) AllReadyH.nil
    obtain ⟨v19, hv19⟩ : ∃ V, D0.alloc (.cells #[.int .i64 0, .int .i64 0, .int .i64 0, .int .i64 0, .int .i64 0, .int .i64 0, .int .i64 0, .int .i64 0, .int .i64 0, .int .i64 0, .int .i64 0, .slice none 0 0] 35) = V := ⟨_, rfl⟩
    have hb : Below D0.heap.size D0 v19 := by rw [← hv19]; exact (Below.refl _ _).alloc (Nat.le_refl _) _
    have HX3 : Hid (BoxIs D0.heap.size #[.int .i64 0, .int .i64 0, .int .i64 0, .int .i64 0, .int .i64 0, .int .i64 0, .int .i64 0, .int .i64 0, .int .i64 0, .int .i64 0, .int .i64 0, .slice none 0 0] v19) := by show BoxIs _ _ _; rw [← hv19]; exact BoxIs.start _ _ _
    have HZ3 : Hid (w.heap.size + 1 < D0.heap.size) := hid HO.out.1
    have HO := hid (HO.out.below hb)
    go_simp
    refine hK.out _ _ (hS.step hb) (fun hS => ?_)
    clear hK K
    try simp only [List.setIfInBounds_toArray, List.set_cons_zero, List.set_cons_succ]
    refine wpAnyH_ready (rs := [8]) (by kernel_rfl) (by simp) ?_
    refine AllReadyH.cons (o := _) rfl (fun K hK => ?_) AllReadyH.nil
    go_simp
    (with_reducible refine (to_any s.a _).mono ?_)
    rintro e v8 ⟨rfl, hb⟩
    have HX3 := hid (HX3.out.below hb)
    have HO := hid (HO.out.below hb)
    refine hK.out _ _ (hS.step hb) (fun hS => ?_)
    clear hK K
    try simp only [List.setIfInBounds_toArray, List.set_cons_zero, List.set_cons_succ]
    refine wpAnyH_ready (rs := [11]) (by kernel_rfl) (by simp) ?_
    refine AllReadyH.cons (o := _) rfl (fun K hK => ?_) AllReadyH.nil
    go_simp
    (with_reducible refine (to_any s.b _).mono ?_)
    rintro e v11 ⟨rfl, hb⟩
    have HX3 := hid (HX3.out.below hb)
    have HO := hid (HO.out.below hb)
    refine hK.out _ _ (hS.step hb) (fun hS => ?_)
    clear hK K
    try simp only [List.setIfInBounds_toArray, List.set_cons_zero, List.set_cons_succ]
    refine wpAnyH_ready (rs := [14]) (by kernel_rfl) (by simp) ?_
    refine AllReadyH.cons (o := _) rfl (fun K hK => ?_) AllReadyH.nil
    go_simp
    (with_reducible refine (to_any s.half _).mono ?_)
    rintro e v14 ⟨rfl, hb⟩
    have HX3 := hid (HX3.out.below hb)
    have HO := hid (HO.out.below hb)
    refine hK.out _ _ (hS.step hb) (fun hS => ?_)
    clear hK K
    try simp only [List.setIfInBounds_toArray, List.set_cons_zero, List.set_cons_succ]
    refine wpAnyH_ready (rs := [17]) (by kernel_rfl) (by simp) ?_
    refine AllReadyH.cons (o := _) rfl (fun K hK => ?_) AllReadyH.nil
    go_simp
    (with_reducible refine (to_any s.peak _).mono ?_)
    rintro e v17 ⟨rfl, hb⟩
    have HX3 := hid (HX3.out.below hb)
    have HO := hid (HO.out.below hb)
    refine hK.out _ _ (hS.step hb) (fun hS => ?_)
    clear hK K
    try simp only [List.setIfInBounds_toArray, List.set_cons_zero, List.set_cons_succ]
    refine tkH (i := 18) (v := ?_) (fun V hV => ?_) ?_
    rotate_left
    · go_simp
      try with_reducible rfl
    try simp only [Act.put, List.getElem_toArray, List.getElem_cons_zero, List.getElem_cons_succ, List.setIfInBounds_toArray, List.set_cons_zero, List.set_cons_succ]
    refine wpAnyH_ready (rs := [20]) (by kernel_rfl) (by simp) ?_
    refine AllReadyH.cons (o := _) rfl (fun K hK => ?_) AllReadyH.nil
    have k0 := (HX3.out.2 0 (.int .i64 0) rfl).1; have f0 := (HX3.out.2 0 (.int .i64 0) rfl).2
    have k1 := (HX3.out.2 1 (.int .i64 0) rfl).1; have f1 := (HX3.out.2 1 (.int .i64 0) rfl).2
    have k2 := (HX3.out.2 2 (.int .i64 0) rfl).1; have f2 := (HX3.out.2 2 (.int .i64 0) rfl).2
    have k3 := (HX3.out.2 3 (.int .i64 0) rfl).1; have f3 := (HX3.out.2 3 (.int .i64 0) rfl).2
    have k4 := (HX3.out.2 4 (.int .i64 0) rfl).1; have f4 := (HX3.out.2 4 (.int .i64 0) rfl).2
    have k5 := (HX3.out.2 5 (.int .i64 0) rfl).1; have f5 := (HX3.out.2 5 (.int .i64 0) rfl).2
    have k6 := (HX3.out.2 6 (.int .i64 0) rfl).1; have f6 := (HX3.out.2 6 (.int .i64 0) rfl).2
    have k7 := (HX3.out.2 7 (.int .i64 0) rfl).1; have f7 := (HX3.out.2 7 (.int .i64 0) rfl).2
    have k8 := (HX3.out.2 8 (.int .i64 0) rfl).1; have f8 := (HX3.out.2 8 (.int .i64 0) rfl).2
    have k9 := (HX3.out.2 9 (.int .i64 0) rfl).1; have f9 := (HX3.out.2 9 (.int .i64 0) rfl).2
    have k10 := (HX3.out.2 10 (.int .i64 0) rfl).1; have f10 := (HX3.out.2 10 (.int .i64 0) rfl).2
    have k11 := (HX3.out.2 11 (.slice none 0 0) rfl).1; have f11 := (HX3.out.2 11 (.slice none 0 0) rfl).2
    have HX9 := hid (HX3.out.put12 (.int .i64 s.wide) (.int .i64 s.high) (.int .i64 s.fall) (.int .i64 s.a.lo) (.int .i64 s.a.hi) (.int .i64 s.b.lo) (.int .i64 s.b.hi) (.int .i64 s.half.lo) (.int .i64 s.half.hi) (.int .i64 s.peak.lo) (.int .i64 s.peak.hi) (.slice none 0 0))
    have HN9 := hid (near_put12 (S := fun k => k = D0.heap.size) (Near.refl _ v17) rfl (.int .i64 s.wide) (.int .i64 s.high) (.int .i64 s.fall) (.int .i64 s.a.lo) (.int .i64 s.a.hi) (.int .i64 s.b.lo) (.int .i64 s.b.hi) (.int .i64 s.half.lo) (.int .i64 s.half.hi) (.int .i64 s.peak.lo) (.int .i64 s.peak.hi) (.slice none 0 0))
    have HS4 := hid hS
    clear hS
    go_simp
    clear k0 f0 k1 f1 k2 f2 k3 f3 k4 f4 k5 f5 k6 f6 k7 f7 k8 f8 k9 f9 k10 f10 k11 f11
    generalize ((((((((((((v17.setCell ⟨D0.heap.size, 0, none⟩ (.int .i64 s.wide)).setCell ⟨D0.heap.size, 1, none⟩ (.int .i64 s.high)).setCell ⟨D0.heap.size, 2, none⟩ (.int .i64 s.fall)).setCell ⟨D0.heap.size, 3, none⟩ (.int .i64 s.a.lo)).setCell ⟨D0.heap.size, 4, none⟩ (.int .i64 s.a.hi)).setCell ⟨D0.heap.size, 5, none⟩ (.int .i64 s.b.lo)).setCell ⟨D0.heap.size, 6, none⟩ (.int .i64 s.b.hi)).setCell ⟨D0.heap.size, 7, none⟩ (.int .i64 s.half.lo)).setCell ⟨D0.heap.size, 8, none⟩ (.int .i64 s.half.hi)).setCell ⟨D0.heap.size, 9, none⟩ (.int .i64 s.peak.lo)).setCell ⟨D0.heap.size, 10, none⟩ (.int .i64 s.peak.hi)).setCell ⟨D0.heap.size, 11, none⟩ (.slice none 0 0)) = V9 at HX9 HN9 ⊢
    have HS9 := hid (HS4.out.step' (HN9.out.below (B := w.heap.size + 1) HS4.out.size (fun k h1 h2 => by have := HZ3.out; omega)))
    have HO9 := hid (HO.out.near HN9.out (by have := HZ3.out; omega))
    refine hK.out _ _ (HS9.out) (fun hS => ?_)
    clear hK K
    try simp only [List.setIfInBounds_toArray, List.set_cons_zero, List.set_cons_succ]
    refine wpAnyH_done (by kernel_rfl) ?_ _
    clear hS
    go_wp2
    go_meet
    case rel => exact ⟨_, rfl, HX9.out, HS9.out, HO9.out, HZ3.out⟩
  case rest =>
    obtain ⟨b3, rfl, hx, hb, ho, hz⟩ := hcut
    have HX0 := hid hx; have HB0 := hid hb; have HO0 := hid ho; have HZ3 := hid hz
    clear hx hb ho hz HO
    go_wp2_with fail
    go_loopw [4] (fun i wr => ∃ k : Nat, k ≤ n ∧ i = .int .i64 k ∧ (∃ q m d, BoxIs b3 #[.int .i64 s.wide, .int .i64 s.high, .int .i64 s.fall, .int .i64 s.a.lo, .int .i64 s.a.hi, .int .i64 s.b.lo, .int .i64 s.b.hi, .int .i64 s.half.lo, .int .i64 s.half.hi, .int .i64 s.peak.lo, .int .i64 s.peak.hi, .slice q m d] wr ∧ OwnRows cellsK 7 119 wr (b3 + 1) (.slice q m d) (s.cards.take k)) ∧ Boxed1 w #[.int .i64 s.wide, .int .i64 s.high, .int .i64 s.fall, .int .i64 s.a.lo, .int .i64 s.a.hi, .int .i64 s.b.lo, .int .i64 s.b.hi, .int .i64 s.half.lo, .int .i64 s.half.hi, .int .i64 s.peak.lo, .int .i64 s.peak.hi, .slice p n c] 26 wr ∧ BoxIs (w.heap.size + 1) #[.int .i64 0, .int .i64 0, .int .i64 0, .int .i64 0, .int .i64 0, .int .i64 0, .int .i64 0, .int .i64 0, .int .i64 0, .int .i64 0, .int .i64 0, .slice none 0 0] wr) (fun i _ => n - (intOf i).toNat)
    case atStart => exact ⟨0, by omega, rfl, ⟨none, 0, 0, HX0.out, ownRows_nil _ _ _ _ _⟩, HB0.out, HO0.out⟩
    case round =>
      obtain ⟨k, hk, rfl, ⟨q9, m9, d9, hx, hv⟩, hb, ho⟩ := hrel
      have HXr := hid hx; have HVr := hid hv; have HBr := hid hb; have HOr := hid ho
      have e11 := (StoAt.of hb.cell).c11
      by_cases hlt : k < n
      · obtain ⟨x, hx7, b1, o1, rfl, hlt1, hc⟩ := (HCS.out.below hb.below).at hlt
        have c0 : wr.cell? ⟨b1, o1 + k * 7, none⟩ = some (.int .i64 x.x.lo) := hc 0 _ rfl
        have c1 : wr.cell? ⟨b1, o1 + k * 7 + 1, none⟩ = some (.int .i64 x.x.hi) := hc 1 _ rfl
        have c2 : wr.cell? ⟨b1, o1 + k * 7 + 2, none⟩ = some (.int .i64 x.y.lo) := hc 2 _ rfl
        have c3 : wr.cell? ⟨b1, o1 + k * 7 + 3, none⟩ = some (.int .i64 x.y.hi) := hc 3 _ rfl
        have c4 : wr.cell? ⟨b1, o1 + k * 7 + 4, none⟩ = some (.bool x.hail) := hc 4 _ rfl
        have c5 : wr.cell? ⟨b1, o1 + k * 7 + 5, none⟩ = some (.int .i64 x.size.lo) := hc 5 _ rfl
        have c6 : wr.cell? ⟨b1, o1 + k * 7 + 6, none⟩ = some (.int .i64 x.size.hi) := hc 6 _ rfl
        have HTS := hid (take_snoc hx7)
        have HLE : Hid ((s.cards.take k).length ≤ 1000000) := hid (Nat.le_trans (List.length_take_le _ _) (by omega))
        clear hc hx7 hx hv hb ho
        obtain ⟨W5, hW5⟩ : ∃ V, wr.alloc (.cells (cellsK x).toArray 61) = V := ⟨_, rfl⟩
        have hba : Below wr.heap.size wr W5 := by rw [← hW5]; exact (Below.refl _ _).alloc (Nat.le_refl _) _
        have hk5 : ∀ j u, (cellsK x)[j]? = some u → W5.cell? ⟨wr.heap.size, j, none⟩ = some u := fun j u hj => by rw [← hW5]; exact cell_box wr _ 61 j u (by simpa using hj)
        have HZB : Hid (wr.heap.size < W5.heap.size) := hid (by rw [← hW5]; simp)
        have HX3 := hid ((HXr.out.below hba).below (Below.refl _ _).drew); have HO3 := hid ((HOr.out.below hba).below (Below.refl _ _).drew); have HV3 := hid ((HVr.out.below hba).below (Below.refl _ _).drew); have HB3 := hid ((HBr.out.step hba).drew)
        have HK3 := hid (fun (j : Nat) (u : Value) (hj : (cellsK x)[j]? = some u) => (((Below.refl W5.heap.size W5).drew.cell (World.block_lt_of_cell? _ _ (hk5 j u hj))).trans (hk5 j u hj)))
        clear hba hk5
        unfold cellsK at hW5
        go_upto_region 6 with fail
        clear hW5 c0 c1 c2 c3 c4 c5 c6 e11
        refine wp_region_listed (S := fun l V => (Boxed1 w #[.int .i64 s.wide, .int .i64 s.high, .int .i64 s.fall, .int .i64 s.a.lo, .int .i64 s.a.hi, .int .i64 s.b.lo, .int .i64 s.b.hi, .int .i64 s.half.lo, .int .i64 s.half.hi, .int .i64 s.peak.lo, .int .i64 s.peak.hi, .slice (some ⟨b1, o1, none⟩) n c] 26 V ∧ ∀ j u, (cellsK x)[j]? = some u → V.cell? ⟨wr.heap.size, j, none⟩ = some u) ∧ (l.getD 17 true = false → V.cell? ⟨b3, 11, none⟩ = some (.slice q9 m9 d9))) (by kernel_rfl) (⟨⟨HB3.out, HK3.out⟩, fun _ => (HX3.out.2 11 (.slice q9 m9 d9) rfl).1⟩) (fun hS => ?_)
        simp only [List.size_toArray, List.length_cons, List.length_nil, Nat.reduceAdd, Array.replicate_succ, Array.replicate_zero, List.push_toArray, List.nil_append, List.cons_append]
        refine anyL_take [] (i := 0) (v := ?_) rfl (by kernel_rfl) (by kernel_rfl) (by kernel_rfl) (fun _ _ _ h => h) (by kernel_rfl) (by kernel_rfl) (fun _ _ => and_congr Iff.rfl (imp_congr (getD_set_iff (by decide)) Iff.rfl)) (Or.inl ⟨by rfl, fun V hV => ?_⟩) (by assumption) ?_
        rotate_left
        · go_simp
          try with_reducible rfl
        try simp only [Act.put, List.getElem_toArray, List.getElem_cons_zero, List.setIfInBounds_toArray, List.set_cons_zero, List.set_cons_succ]
        refine anyL_take [17] (i := 1) (v := ?_) rfl (by kernel_rfl) (by kernel_rfl) (by kernel_rfl) (fun _ _ _ h => h) (by kernel_rfl) (by kernel_rfl) (fun _ _ => and_congr Iff.rfl (imp_congr (getD_set_iff (by decide)) Iff.rfl)) (Or.inl ⟨by rfl, fun V hV => ?_⟩) (by assumption) ?_
        rotate_left
        · obtain ⟨l, hn, hV⟩ := hV; have e0 := hV.2 (hn 17 (by simp)); go_simp
          try with_reducible rfl
        try simp only [Act.put, List.getElem_toArray, List.getElem_cons_zero, List.getElem_cons_succ, List.setIfInBounds_toArray, List.set_cons_zero, List.set_cons_succ]
        refine anyL_take [] (i := 2) (v := ?_) rfl (by kernel_rfl) (by kernel_rfl) (by kernel_rfl) (fun _ _ _ h => h) (by kernel_rfl) (by kernel_rfl) (fun _ _ => and_congr Iff.rfl (imp_congr (getD_set_iff (by decide)) Iff.rfl)) (Or.inl ⟨by rfl, fun V hV => ?_⟩) (by assumption) ?_
        rotate_left
        · go_simp
          try with_reducible rfl
        try simp only [Act.put, List.getElem_toArray, List.getElem_cons_zero, List.getElem_cons_succ, List.setIfInBounds_toArray, List.set_cons_zero, List.set_cons_succ]
        refine anyL_take [] (i := 3) (v := ?_) rfl (by kernel_rfl) (by kernel_rfl) (by kernel_rfl) (fun _ _ _ h => h) (by kernel_rfl) (by kernel_rfl) (fun _ _ => and_congr Iff.rfl (imp_congr (getD_set_iff (by decide)) Iff.rfl)) (Or.inl ⟨by rfl, fun V hV => ?_⟩) (by assumption) ?_
        rotate_left
        · obtain ⟨l, hn, hV⟩ := hV; have d0 := hV.1.2 0 _ rfl; have d1 := hV.1.2 1 _ rfl; have d2 := hV.1.2 2 _ rfl; have d3 := hV.1.2 3 _ rfl; have d4 := hV.1.2 4 _ rfl; have d5 := hV.1.2 5 _ rfl; have d6 := hV.1.2 6 _ rfl; go_simp
          try with_reducible rfl
        try simp only [Act.put, List.getElem_toArray, List.getElem_cons_zero, List.getElem_cons_succ, List.setIfInBounds_toArray, List.set_cons_zero, List.set_cons_succ]
        refine anyL_take [] (i := 5) (v := ?_) rfl (by kernel_rfl) (by kernel_rfl) (by kernel_rfl) (fun _ _ _ h => h) (by kernel_rfl) (by kernel_rfl) (fun _ _ => and_congr Iff.rfl (imp_congr (getD_set_iff (by decide)) Iff.rfl)) (Or.inl ⟨by rfl, fun V hV => ?_⟩) (by assumption) ?_
        rotate_left
        · go_simp
          try with_reducible rfl
        try simp only [Act.put, List.getElem_toArray, List.getElem_cons_zero, List.getElem_cons_succ, List.setIfInBounds_toArray, List.set_cons_zero, List.set_cons_succ]
        refine anyL_take [] (i := 6) (v := ?_) rfl (by kernel_rfl) (by kernel_rfl) (by kernel_rfl) (fun _ _ _ h => h) (by kernel_rfl) (by kernel_rfl) (fun _ _ => and_congr Iff.rfl (imp_congr (getD_set_iff (by decide)) Iff.rfl)) (Or.inl ⟨by rfl, fun V hV => ?_⟩) (by assumption) ?_
        rotate_left
        · obtain ⟨l, hn, hV⟩ := hV; have d0 := hV.1.2 0 _ rfl; have d1 := hV.1.2 1 _ rfl; have d2 := hV.1.2 2 _ rfl; have d3 := hV.1.2 3 _ rfl; have d4 := hV.1.2 4 _ rfl; have d5 := hV.1.2 5 _ rfl; have d6 := hV.1.2 6 _ rfl; go_simp
          try with_reducible rfl
        try simp only [Act.put, List.getElem_toArray, List.getElem_cons_zero, List.getElem_cons_succ, List.setIfInBounds_toArray, List.set_cons_zero, List.set_cons_succ]
        refine anyL_take [] (i := 8) (v := ?_) rfl (by kernel_rfl) (by kernel_rfl) (by kernel_rfl) (fun _ _ _ h => h) (by kernel_rfl) (by kernel_rfl) (fun _ _ => and_congr Iff.rfl (imp_congr (getD_set_iff (by decide)) Iff.rfl)) (Or.inl ⟨by rfl, fun V hV => ?_⟩) (by assumption) ?_
        rotate_left
        · go_simp
          try with_reducible rfl
        try simp only [Act.put, List.getElem_toArray, List.getElem_cons_zero, List.getElem_cons_succ, List.setIfInBounds_toArray, List.set_cons_zero, List.set_cons_succ]
        refine anyL_take [] (i := 9) (v := ?_) rfl (by kernel_rfl) (by kernel_rfl) (by kernel_rfl) (fun _ _ _ h => h) (by kernel_rfl) (by kernel_rfl) (fun _ _ => and_congr Iff.rfl (imp_congr (getD_set_iff (by decide)) Iff.rfl)) (Or.inl ⟨by rfl, fun V hV => ?_⟩) (by assumption) ?_
        rotate_left
        · obtain ⟨l, hn, hV⟩ := hV; have d0 := hV.1.2 0 _ rfl; have d1 := hV.1.2 1 _ rfl; have d2 := hV.1.2 2 _ rfl; have d3 := hV.1.2 3 _ rfl; have d4 := hV.1.2 4 _ rfl; have d5 := hV.1.2 5 _ rfl; have d6 := hV.1.2 6 _ rfl; go_simp
          try with_reducible rfl
        try simp only [Act.put, List.getElem_toArray, List.getElem_cons_zero, List.getElem_cons_succ, List.setIfInBounds_toArray, List.set_cons_zero, List.set_cons_succ]
        refine anyL_take [] (i := 10) (v := ?_) rfl (by kernel_rfl) (by kernel_rfl) (by kernel_rfl) (fun _ _ _ h => h) (by kernel_rfl) (by kernel_rfl) (fun _ _ => and_congr Iff.rfl (imp_congr (getD_set_iff (by decide)) Iff.rfl)) (Or.inl ⟨by rfl, fun V hV => ?_⟩) (by assumption) ?_
        rotate_left
        · go_simp
          try with_reducible rfl
        try simp only [Act.put, List.getElem_toArray, List.getElem_cons_zero, List.getElem_cons_succ, List.setIfInBounds_toArray, List.set_cons_zero, List.set_cons_succ]
        refine anyL_take [] (i := 11) (v := ?_) rfl (by kernel_rfl) (by kernel_rfl) (by kernel_rfl) (fun _ _ _ h => h) (by kernel_rfl) (by kernel_rfl) (fun _ _ => and_congr Iff.rfl (imp_congr (getD_set_iff (by decide)) Iff.rfl)) (Or.inl ⟨by rfl, fun V hV => ?_⟩) (by assumption) ?_
        rotate_left
        · obtain ⟨l, hn, hV⟩ := hV; have d0 := hV.1.2 0 _ rfl; have d1 := hV.1.2 1 _ rfl; have d2 := hV.1.2 2 _ rfl; have d3 := hV.1.2 3 _ rfl; have d4 := hV.1.2 4 _ rfl; have d5 := hV.1.2 5 _ rfl; have d6 := hV.1.2 6 _ rfl; go_simp
          try with_reducible rfl
        try simp only [Act.put, List.getElem_toArray, List.getElem_cons_zero, List.getElem_cons_succ, List.setIfInBounds_toArray, List.set_cons_zero, List.set_cons_succ]
        refine anyL_one (i := 4) (o := _) (by kernel_rfl) rfl (fun K hK => ?_)
        go_simp
        (with_reducible refine (to_any x.x _).mono ?_)
        rintro e v4 ⟨rfl, hb⟩
        have HX3 := hid (HX3.out.below hb); have HO3 := hid (HO3.out.below hb); have HV3 := hid (HV3.out.below hb); have HB3 := hid (hS.1.1.step hb); have HK3 := hid (fun j u hj => ((hb.cell (World.block_lt_of_cell? _ _ (hS.1.2 j u hj))).trans (hS.1.2 j u hj)))
        clear hS
        clear hb
        refine hK.out _ _ (⟨⟨HB3.out, HK3.out⟩, fun _ => (HX3.out.2 11 (.slice q9 m9 d9) rfl).1⟩) (fun hS => ?_)
        clear hK K
        try simp only [List.setIfInBounds_toArray, List.set_cons_zero, List.set_cons_succ]
        refine anyL_one (i := 7) (o := _) (by kernel_rfl) rfl (fun K hK => ?_)
        go_simp
        (with_reducible refine (to_any x.y _).mono ?_)
        rintro e v7 ⟨rfl, hb⟩
        have HX3 := hid (HX3.out.below hb); have HO3 := hid (HO3.out.below hb); have HV3 := hid (HV3.out.below hb); have HB3 := hid (hS.1.1.step hb); have HK3 := hid (fun j u hj => ((hb.cell (World.block_lt_of_cell? _ _ (hS.1.2 j u hj))).trans (hS.1.2 j u hj)))
        clear hS
        clear hb
        refine hK.out _ _ (⟨⟨HB3.out, HK3.out⟩, fun _ => (HX3.out.2 11 (.slice q9 m9 d9) rfl).1⟩) (fun hS => ?_)
        clear hK K
        try simp only [List.setIfInBounds_toArray, List.set_cons_zero, List.set_cons_succ]
        refine anyL_one (i := 12) (o := _) (by kernel_rfl) rfl (fun K hK => ?_)
        go_simp
        (with_reducible refine (to_any x.size _).mono ?_)
        rintro e v12 ⟨rfl, hb⟩
        have HX3 := hid (HX3.out.below hb); have HO3 := hid (HO3.out.below hb); have HV3 := hid (HV3.out.below hb); have HB3 := hid (hS.1.1.step hb); have HK3 := hid (fun j u hj => ((hb.cell (World.block_lt_of_cell? _ _ (hS.1.2 j u hj))).trans (hS.1.2 j u hj)))
        clear hS
        clear hb
        refine hK.out _ _ (⟨⟨HB3.out, HK3.out⟩, fun _ => (HX3.out.2 11 (.slice q9 m9 d9) rfl).1⟩) (fun hS => ?_)
        clear hK K
        try simp only [List.setIfInBounds_toArray, List.set_cons_zero, List.set_cons_succ]
        refine anyL_take [] (i := 13) (v := ?_) rfl (by kernel_rfl) (by kernel_rfl) (by kernel_rfl) (fun _ _ _ h => h) (by kernel_rfl) (by kernel_rfl) (fun _ _ => and_congr Iff.rfl (imp_congr (getD_set_iff (by decide)) Iff.rfl)) (Or.inl ⟨by rfl, fun V hV => ?_⟩) (by assumption) ?_
        rotate_left
        · go_simp
          try with_reducible rfl
        try simp only [Act.put, List.getElem_toArray, List.getElem_cons_zero, List.getElem_cons_succ, List.setIfInBounds_toArray, List.set_cons_zero, List.set_cons_succ]
        refine anyL_one (i := 14) (o := _) (by kernel_rfl) rfl (fun K hK => ?_)
        obtain ⟨v14, hv14⟩ : ∃ V, v12.alloc (.cells (cellsK x).toArray 119) = V := ⟨_, rfl⟩
        have hb : Below v12.heap.size v12 v14 := by rw [← hv14]; exact (Below.refl _ _).alloc (Nat.le_refl _) _
        have HL3 : Hid (∀ j u, (cellsK x)[j]? = some u → v14.cell? ⟨v12.heap.size, j, none⟩ = some u) := fun j u hj => by rw [← hv14]; exact cell_box v12 _ 119 j u (by simpa using hj)
        have HX3 := hid (HX3.out.below hb); have HO3 := hid (HO3.out.below hb); have HV3 := hid (HV3.out.below hb); have HB3 := hid (hS.1.1.step hb); have HK3 := hid (fun j u hj => ((hb.cell (World.block_lt_of_cell? _ _ (hS.1.2 j u hj))).trans (hS.1.2 j u hj)))
        clear hS
        unfold cellsK at hv14
        go_simp
        clear hb hv14
        refine hK.out _ _ (⟨⟨HB3.out, HK3.out⟩, fun _ => (HX3.out.2 11 (.slice q9 m9 d9) rfl).1⟩) (fun hS => ?_)
        clear hK K
        try simp only [List.setIfInBounds_toArray, List.set_cons_zero, List.set_cons_succ]
        refine anyL_one (i := 15) (o := _) (by kernel_rfl) rfl (fun K hK => ?_)
        refine step_append_crd (by rfl) (.tmp 38) (.tmp 51) (by rfl) (b3 + 1) (.slice q9 m9 d9) (s.cards.take k) x v12.heap.size HV3.out rfl rfl HL3.out HLE.out (by have := HX3.out.1; omega) ?_
        intro g9 cap9 v15 h15 hb15 hg15 hk15
        rw [List.length_take_of_le (by have := HL.out; omega)] at h15 ⊢
        rw [← HTS.out] at h15
        have HV5 := hid h15; have HX5 := hid (HX3.out.keep hb15 (by omega)); have HO5 := hid (HO3.out.keep hb15 (by have := HZ3.out; omega)); have HB5 := hid (hS.1.1.step' (hb15.mono (by have := HZ3.out; omega)))
        have HK5 := hid (fun (j : Nat) (u : Value) (hj : (cellsK x)[j]? = some u) => (World.cell?_of_block (hk15 wr.heap.size (by have := hS.1.2 0 _ rfl; exact World.block_lt_of_cell? _ _ this) (fun e => by have := (HVr.out.lt _ e.symm).2; omega))).trans (hS.1.2 j u hj))
        clear hS h15 hb15 hk15
        refine hK.out _ _ (⟨⟨HB5.out, HK5.out⟩, fun _ => (HX5.out.2 11 (.slice q9 m9 d9) rfl).1⟩) (fun hS => ?_)
        clear hK K
        try simp only [Act.put, List.getElem_toArray, List.getElem_cons_zero, List.getElem_cons_succ, List.setIfInBounds_toArray, List.set_cons_zero, List.set_cons_succ]
        refine anyL_take [] (i := 16) (v := ?_) rfl (by kernel_rfl) (by kernel_rfl) (by kernel_rfl) (fun _ _ _ h => h) (by kernel_rfl) (by kernel_rfl) (fun _ _ => and_congr Iff.rfl (imp_congr (getD_set_iff (by decide)) Iff.rfl)) (Or.inl ⟨by rfl, fun V hV => ?_⟩) (by assumption) ?_
        rotate_left
        · go_simp
          try with_reducible rfl
        try simp only [Act.put, List.getElem_toArray, List.getElem_cons_zero, List.getElem_cons_succ, List.setIfInBounds_toArray, List.set_cons_zero, List.set_cons_succ]
        refine anyL_one (i := 17) (o := _) (by kernel_rfl) rfl (fun K hK => ?_)
        have k0 := (HX5.out.2 11 (.slice q9 m9 d9) rfl).1; have k1 := (HX5.out.2 11 (.slice q9 m9 d9) rfl).2
        have HX7 := hid (HX5.out.put (j := 11) (.slice (some ⟨g9, 0, none⟩) (k + 1) cap9))
        have hn7 := (Near.refl (fun i => i = b3) v15).setCell (p := ⟨b3, 11, none⟩) (fun _ => rfl) (.slice (some ⟨g9, 0, none⟩) (k + 1) cap9)
        have HB7 := hid (HB5.out.step' (hn7.below (B := w.heap.size + 1) HB5.out.size (fun i h1 h2 => by have := HZ3.out; omega)))
        have HO7 := hid (HO5.out.near hn7 (by have := HZ3.out; omega))
        have HV7 := hid (HV5.out.near hn7 (fun i h => by omega))
        have HK7 := hid (fun (j : Nat) (u : Value) (hj : (cellsK x)[j]? = some u) => (World.cell?_of_block (hn7.block wr.heap.size (World.block_lt_of_cell? _ _ (HK5.out 0 _ rfl)) (by have := HXr.out.1; omega))).trans (HK5.out j u hj))
        clear hn7 hS
        go_simp
        clear k0 k1
        refine hK.out _ _ (⟨⟨HB7.out, HK7.out⟩, fun h => absurd h (by decide)⟩) (fun hS => ?_)
        clear hK K
        try simp only [List.setIfInBounds_toArray, List.set_cons_zero, List.set_cons_succ]
        refine anyL_done (by kernel_rfl) ?_ _
        clear hS
        go_wp2_with fail
        go_roundw
        case rel => exact ⟨k + 1, by omega, by go_num, ⟨_, _, _, HX7.out, HV7.out⟩, HB7.out, HO7.out⟩
        case measure => simp [intOf]; omega
      · have hkN : s.cards.take k = s.cards := List.take_of_length_le (by have := HL.out; omega)
        rw [hkN] at hv
        have HV9 := hid hv
        clear hkN hx hv hb ho
        have k0 := (HXr.out.2 0 (.int .i64 s.wide) rfl).1; have k1 := (HXr.out.2 1 (.int .i64 s.high) rfl).1; have k2 := (HXr.out.2 2 (.int .i64 s.fall) rfl).1; have k3 := (HXr.out.2 3 (.int .i64 s.a.lo) rfl).1; have k4 := (HXr.out.2 4 (.int .i64 s.a.hi) rfl).1; have k5 := (HXr.out.2 5 (.int .i64 s.b.lo) rfl).1; have k6 := (HXr.out.2 6 (.int .i64 s.b.hi) rfl).1; have k7 := (HXr.out.2 7 (.int .i64 s.half.lo) rfl).1; have k8 := (HXr.out.2 8 (.int .i64 s.half.hi) rfl).1; have k9 := (HXr.out.2 9 (.int .i64 s.peak.lo) rfl).1; have k10 := (HXr.out.2 10 (.int .i64 s.peak.hi) rfl).1; have k11 := (HXr.out.2 11 (.slice q9 m9 d9) rfl).1
        have z0 := (HOr.out.2 0 (.int .i64 0) rfl).1; have y0 := (HOr.out.2 0 (.int .i64 0) rfl).2; have z1 := (HOr.out.2 1 (.int .i64 0) rfl).1; have y1 := (HOr.out.2 1 (.int .i64 0) rfl).2; have z2 := (HOr.out.2 2 (.int .i64 0) rfl).1; have y2 := (HOr.out.2 2 (.int .i64 0) rfl).2; have z3 := (HOr.out.2 3 (.int .i64 0) rfl).1; have y3 := (HOr.out.2 3 (.int .i64 0) rfl).2; have z4 := (HOr.out.2 4 (.int .i64 0) rfl).1; have y4 := (HOr.out.2 4 (.int .i64 0) rfl).2; have z5 := (HOr.out.2 5 (.int .i64 0) rfl).1; have y5 := (HOr.out.2 5 (.int .i64 0) rfl).2; have z6 := (HOr.out.2 6 (.int .i64 0) rfl).1; have y6 := (HOr.out.2 6 (.int .i64 0) rfl).2; have z7 := (HOr.out.2 7 (.int .i64 0) rfl).1; have y7 := (HOr.out.2 7 (.int .i64 0) rfl).2; have z8 := (HOr.out.2 8 (.int .i64 0) rfl).1; have y8 := (HOr.out.2 8 (.int .i64 0) rfl).2; have z9 := (HOr.out.2 9 (.int .i64 0) rfl).1; have y9 := (HOr.out.2 9 (.int .i64 0) rfl).2; have z10 := (HOr.out.2 10 (.int .i64 0) rfl).1; have y10 := (HOr.out.2 10 (.int .i64 0) rfl).2; have z11 := (HOr.out.2 11 (.slice none 0 0) rfl).1; have y11 := (HOr.out.2 11 (.slice none 0 0) rfl).2
        have HR := hid (HOr.out.put12 (.int .i64 s.wide) (.int .i64 s.high) (.int .i64 s.fall) (.int .i64 s.a.lo) (.int .i64 s.a.hi) (.int .i64 s.b.lo) (.int .i64 s.b.hi) (.int .i64 s.half.lo) (.int .i64 s.half.hi) (.int .i64 s.peak.lo) (.int .i64 s.peak.hi) (.slice q9 m9 d9))
        have HB9 := hid (below_put12 HBr.out.below (Nat.le_succ _) (.int .i64 s.wide) (.int .i64 s.high) (.int .i64 s.fall) (.int .i64 s.a.lo) (.int .i64 s.a.hi) (.int .i64 s.b.lo) (.int .i64 s.b.hi) (.int .i64 s.half.lo) (.int .i64 s.half.hi) (.int .i64 s.peak.lo) (.int .i64 s.peak.hi) (.slice q9 m9 d9))
        have HN9 := hid (near_put12 (S := fun k => k = w.heap.size + 1) (Near.refl _ wr) rfl (.int .i64 s.wide) (.int .i64 s.high) (.int .i64 s.fall) (.int .i64 s.a.lo) (.int .i64 s.a.hi) (.int .i64 s.b.lo) (.int .i64 s.b.hi) (.int .i64 s.half.lo) (.int .i64 s.half.hi) (.int .i64 s.peak.lo) (.int .i64 s.peak.hi) (.slice q9 m9 d9))
        go_wp2_with fail
        generalize ((((((((((((wr.setCell ⟨w.heap.size + 1, 0, none⟩ (.int .i64 s.wide)).setCell ⟨w.heap.size + 1, 1, none⟩ (.int .i64 s.high)).setCell ⟨w.heap.size + 1, 2, none⟩ (.int .i64 s.fall)).setCell ⟨w.heap.size + 1, 3, none⟩ (.int .i64 s.a.lo)).setCell ⟨w.heap.size + 1, 4, none⟩ (.int .i64 s.a.hi)).setCell ⟨w.heap.size + 1, 5, none⟩ (.int .i64 s.b.lo)).setCell ⟨w.heap.size + 1, 6, none⟩ (.int .i64 s.b.hi)).setCell ⟨w.heap.size + 1, 7, none⟩ (.int .i64 s.half.lo)).setCell ⟨w.heap.size + 1, 8, none⟩ (.int .i64 s.half.hi)).setCell ⟨w.heap.size + 1, 9, none⟩ (.int .i64 s.peak.lo)).setCell ⟨w.heap.size + 1, 10, none⟩ (.int .i64 s.peak.hi)).setCell ⟨w.heap.size + 1, 11, none⟩ (.slice q9 m9 d9)) = W9 at HR HB9 HN9 ⊢
        clear k0 z0 y0 k1 z1 y1 k2 z2 y2 k3 z3 y3 k4 z4 y4 k5 z5 y5 k6 z6 y6 k7 z7 y7 k8 z8 y8 k9 z9 y9 k10 z10 y10 k11 z11 y11 e11
        have x0 := (HR.out.2 0 (.int .i64 s.wide) rfl).1; have x1 := (HR.out.2 1 (.int .i64 s.high) rfl).1; have x2 := (HR.out.2 2 (.int .i64 s.fall) rfl).1; have x3 := (HR.out.2 3 (.int .i64 s.a.lo) rfl).1; have x4 := (HR.out.2 4 (.int .i64 s.a.hi) rfl).1; have x5 := (HR.out.2 5 (.int .i64 s.b.lo) rfl).1; have x6 := (HR.out.2 6 (.int .i64 s.b.hi) rfl).1; have x7 := (HR.out.2 7 (.int .i64 s.half.lo) rfl).1; have x8 := (HR.out.2 8 (.int .i64 s.half.hi) rfl).1; have x9 := (HR.out.2 9 (.int .i64 s.peak.lo) rfl).1; have x10 := (HR.out.2 10 (.int .i64 s.peak.hi) rfl).1; have x11 := (HR.out.2 11 (.slice q9 m9 d9) rfl).1
        refine bodyPost_ret (v := .agg #[.int .i64 s.wide, .int .i64 s.high, .int .i64 s.fall, .int .i64 s.a.lo, .int .i64 s.a.hi, .int .i64 s.b.lo, .int .i64 s.b.hi, .int .i64 s.half.lo, .int .i64 s.half.hi, .int .i64 s.peak.lo, .int .i64 s.peak.hi, .slice q9 m9 d9]) (by simp [results, Try.f20, go_sem, x0, x1, x2, x3, x4, x5, x6, x7, x8, x9, x10, x11]) rfl ?_
        have hown := HV9.out.near HN9.out (fun k hk => by have := HZ3.out; omega)
        obtain ⟨q2, d2, e2, hr2⟩ := hown.slice cellsK_len
        cases e2
        exact ⟨_, _, _, rfl, crds_iff.2 hr2, HB9.out⟩
end Go.Proofs.Ytfnefkenheglhaa
