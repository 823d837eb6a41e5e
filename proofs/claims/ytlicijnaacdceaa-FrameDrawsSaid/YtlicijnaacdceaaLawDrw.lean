/- FrameDraws returns true, whatever its arguments are. No condition. -/
import Derived.Test.YtlicijnaacdceaaLawLot
import Derived.Test.YtlicijnaacdceaaLawG
import Derived.Deep.Cut
namespace Go.Proofs.Ytlicijnaacdceaa
open Go.RowKit

theorem IntsAt.get {V : World} {b o n : Nat} {l : List Int} (h : IntsAt V (some ⟨b, o, none⟩) n l) {k : Nat} (hk : k < n) : V.cell? ⟨b, o + k, none⟩ = some (.int .i64 (l[k]?.getD 0)) := by
  obtain ⟨b', o', e, hc⟩ := h.2 k hk
  cases e
  exact hc

theorem step_append_ref1 {ops : Array Oper} {o : Oper} {a : Act} {w : World} {K : Act → World → Prop} {Q : Exit → Act → World → Prop} {E : Prop} (hgd : o.guard = none) (s x : Operand)
    (ho : o.op = .call { callee := .builtin .append, args := #[s, x], argTypes := #[25, 25] })
    (base : Nat) (v : Value) (q : Option Addr) (m c : Nat) (y : List Cnt) (hown : OwnRef w base v []) (hs : a.eval s = v) (hx : a.eval x = .slice q m c) (hy : CntsAt w q m y)
    (hm1 : 1 ≤ m) (hm : m ≤ 4000000) (hbase : base ≤ w.heap.size)
    (h : ∀ g cap w', OwnRef w' base (.slice (some ⟨g, 0, none⟩) m cap) y → Below base w w' → (∀ k, k < w.heap.size → some k ≠ v.ownBlock → w'.heap[k]? = w.heap[k]?) → (v.ownBlock = some g ∨ g = w.heap.size) → K (a.put o.dst (.slice (some ⟨g, 0, none⟩) m cap)) w') :
    if Region.wanted o (yielded ops a.tmps) = true then Oper.wp Try.prog o a w K Q else E := by
  obtain ⟨i0, hi, hz0, hz1, hz2⟩ := info_parts Try.info59
  obtain ⟨z0, hz⟩ : ∃ z, y[0]? = some z := ⟨y[0]'(by have := hy.1; omega), List.getElem?_eq_getElem _⟩
  obtain ⟨b, off, hq, _⟩ := hy.2 0 z0 hz
  subst hq
  refine step_append_lies w hgd s x 25 ho base 59 i0 _ 4 32 Try.und25 hi hz0 hz1 hz2 rfl (by decide) v 0 [] hs hown ⟨b, off, none⟩ m c (y.flatMap cells4) hx (by rw [flat4_len, hy.1]) ?_ ?_ (by omega) (by unfold maxLen; omega) (by omega) hbase w.heap.size rfl ?_
  · intro j u hj
    obtain ⟨z, hz, hu⟩ := flat_get4' y j u hj
    obtain ⟨b', off', e, hlt, q0, q1, q2, q3⟩ := hy.2 (j / 4) z hz
    cases e
    have e : (⟨b, off, none⟩ : Addr).add j = ⟨b, off + j / 4 * 4 + j % 4, none⟩ := by
      have e : (⟨b, off, none⟩ : Addr).add j = ⟨b, off + j, none⟩ := by unfold Addr.add; split <;> simp_all
      rw [e, show off + j = off + j / 4 * 4 + j % 4 by omega]
    rw [e]
    have hm4 : j % 4 < 4 := Nat.mod_lt _ (by omega)
    generalize j % 4 = k at hu hm4 ⊢
    match k, hm4 with
    | 0, _ => simp [cells4] at hu; subst hu; exact q0
    | 1, _ => simp [cells4] at hu; subst hu; exact q1
    | 2, _ => simp [cells4] at hu; subst hu; exact q2
    | 3, _ => simp [cells4] at hu; subst hu; exact q3
  · intro u hu
    obtain ⟨z, _, hz⟩ := List.mem_flatMap.1 hu
    simp only [cells4, List.mem_cons, List.not_mem_nil, or_false] at hz
    rcases hz with rfl | rfl | rfl | rfl <;> simp [Value.oneCell']
  · intro g cap w' h1 h2 h3 h4
    rw [Nat.zero_add] at h1 ⊢
    refine h g cap w' ?_ ?_ (fun k hk hne => h2.block k hk hne) h3
    · unfold OwnRef
      rw [← hy.1]
      simpa using h1
    · refine (Below.refl base w).grown h2 hbase ?_
      intro k hk
      exact (World.ownsRow.lt hown k hk).1


theorem IntsAt.pre {w : World} {p : Option Addr} {l1 l2 : List Int} (h : IntsAt w p (l1 ++ l2).length (l1 ++ l2)) : IntsAt w p l1.length l1 := by
  refine ⟨rfl, fun i hi => ?_⟩
  obtain ⟨b, off, hp, hc⟩ := h.2 i (by rw [List.length_append]; omega)
  refine ⟨b, off, hp, ?_⟩
  rw [List.getElem?_append_left hi] at hc
  exact hc

theorem ownRef_none (w : World) (base : Nat) : OwnRef w base (.slice none 0 0) [] := ⟨rfl, .inl ⟨rfl, rfl⟩⟩

theorem cnt_one (w : World) (x : Cnt) : CntsAt (w.alloc (.cells #[.int .i64 x.place, .int .i64 x.lo, .int .i64 x.hi, .bool x.late] 59)) (some ⟨w.heap.size, 0, none⟩) 1 [x] := by
  obtain ⟨p, c, e, h⟩ := (ownRef_one w x).slice
  cases e
  exact h

theorem LotW.far {w : World} {r cc : Int} {p : Option Addr} {n c : Nat} {l : List Int} {seed stp draws : Int} {q : Option Addr} {m d : Nat} {cs : List Cnt} {W W' : World} {B : Nat} (h : LotW w r cc p n c l seed stp draws q m d cs W) (hl : IntsAt w p n l) (hcs : CntsAt w q m cs) (hb : Below B W W') (hB : w.heap.size + 2 ≤ B) : LotW w r cc p n c l seed stp draws q m d cs W' :=
  have h1 : Boxed2 w #[.int .i64 r, .int .i64 cc, .slice p n c] 24 #[.int .i64 seed, .int .i64 stp, .int .i64 draws] 84 W' := h.box.step (hb.mono hB)
  ⟨h1, hl.below h1.below, hcs.below h1.below⟩

theorem foreign_none {L : Nat} {seed stp draws : Int} {P : List Int} {C : List Cnt} (hP : drawL L seed stp draws = P) (hL : 1 ≤ L) (hd : draws ≤ L) (hC : (P.take 5).map (fun y => (⟨y, 0, 0, false⟩ : Cnt)) = C) :
    foreignL L seed stp draws C = [] ∧ ∀ C0, C[0]? = some C0 → foreignL L seed stp draws (C ++ [C0]) = [(C.length : Int)] := by
  have hf := drawL_facts (seed := seed) (step := stp) hL hd
  rw [hP] at hf
  have hm : C.map Cnt.place = P.take 5 := by rw [← hC, List.map_map]; exact List.map_id _
  have hin : ∀ c ∈ C, c.place ∈ P := fun c hc => List.mem_of_mem_take (hm ▸ List.mem_map.2 ⟨c, hc, rfl⟩)
  have h1 : foreignG P 0 C [] [] = [] := foreignG_none P C [] [] 0 (fun c hc => ⟨hin c hc, by simp⟩) (by rw [hm]; exact hf.1.sublist (List.take_sublist _ _))
  refine ⟨by rw [foreignL, hP]; exact h1, fun C0 h0 => ?_⟩
  have hc0 := List.mem_of_getElem? h0
  rw [foreignL, hP, foreignG_snoc, h1, List.nil_append, (hasB_mem _ _).2 (hin C0 hc0), (hasB_mem (C.map Cnt.place) _).2 (List.mem_map.2 ⟨C0, hc0, rfl⟩)]
  simp

theorem CntsAt.drewC {w : World} {p : Option Addr} {n : Nat} {l : List Cnt} (h : CntsAt w p n l) : CntsAt w.drew p n l := h

theorem CntsAt.far {W W' : World} {b o n M : Nat} {l : List Cnt} (h : CntsAt W (some ⟨b, o, none⟩) n l) (hM : b < M) (hb : Below M W W') : CntsAt W' (some ⟨b, o, none⟩) n l := by
  refine ⟨h.1, fun i c hi => ?_⟩
  obtain ⟨b', off, hp, hlt, h0, h1, h2, h3⟩ := h.2 i c hi
  cases hp
  exact ⟨b, o, rfl, Nat.lt_of_lt_of_le hlt hb.size, (hb.cell (p := ⟨b, _, none⟩) hM).trans h0, (hb.cell (p := ⟨b, _, none⟩) hM).trans h1, (hb.cell (p := ⟨b, _, none⟩) hM).trans h2, (hb.cell (p := ⟨b, _, none⟩) hM).trans h3⟩

theorem OwnRef.base {w : World} {base base' : Nat} {v : Value} {l : List Cnt} (h : OwnRef w base v l) (hb : base' ≤ base) : OwnRef w base' v l := by
  refine ⟨h.1, ?_⟩
  rcases h.2 with h0 | ⟨g, cap, cur, h1, hg, hr⟩
  · exact .inl h0
  · exact .inr ⟨g, cap, cur, h1, Nat.le_trans hb hg, hr⟩

set_option maxRecDepth 40000 in
set_option maxHeartbeats 32000000 in
theorem frameDraws_any (r cc : Int) (p : Option Addr) (n c : Nat) (l : List Int) (seed stp draws : Int) (w : World) (hl : IntsAt w p n l) :
    Calls Try.prog 17 #[.agg #[.int .i64 r, .int .i64 cc, .slice p n c], .agg #[.int .i64 seed, .int .i64 stp, .int .i64 draws]] w fun e w' => e = .returned (.bool true) ∧ Below w.heap.size w w' := by
  by_cases hn12 : n ≤ 12
  · skip
    have hn12i : ¬ (12 : Int) < n := by omega
    have HNL : Hid (n = l.length) := hl.1
    have hcs0 : CntsAt w none 0 [] := ⟨rfl, fun i c hi => by simp at hi⟩
    cases hF : isFieldB r cc l
    · have HFB := hid hF
      clear hF
      have HS1 := hid (LotW.start (r := r) (cc := cc) (c := c) (seed := seed) (stp := stp) (draws := draws) (d := 0) hl hcs0)
      have HLW := hid hl; have HCW := hid hcs0
      clear hl hcs0
      have g0 := HS1.out.c0; have g1 := HS1.out.c1; have g2 := HS1.out.c2; have g3 := HS1.out.c3; have g4 := HS1.out.c4; have g5 := HS1.out.c5
      go_enter Try.func17, Try.ntmps17
      go_wp2_with fail
      refine (isField_any r cc p n c l _ HS1.out.ints (by omega)).mono ?_
      rintro e w2 ⟨rfl, hb⟩
      have HS2 := hid (HS1.out.step hb)
      rw [HFB.out]
      clear hb g5 g0 g1 g2 g3 g4
      have g0 := HS2.out.c0; have g1 := HS2.out.c1; have g2 := HS2.out.c2; have g3 := HS2.out.c3; have g4 := HS2.out.c4; have g5 := HS2.out.c5
      go_wp2_with fail
      refine (awake_any _).mono ?_
      rintro e w99 ⟨rfl, hb⟩
      go_wp2_with fail
      go_ret
      exact ⟨rfl, HS2.out.below.trans (hb.mono HS2.out.below.size)⟩
    · have HFB := hid hF
      have HFF := hid (field_facts hF)
      cases hLb : isLotB n seed stp draws
      · have HLB := hid hLb
        clear hF hLb
        have HS1 := hid (LotW.start (r := r) (cc := cc) (c := c) (seed := seed) (stp := stp) (draws := draws) (d := 0) hl hcs0)
        have HLW := hid hl; have HCW := hid hcs0
        clear hl hcs0
        have g0 := HS1.out.c0; have g1 := HS1.out.c1; have g2 := HS1.out.c2; have g3 := HS1.out.c3; have g4 := HS1.out.c4; have g5 := HS1.out.c5
        go_enter Try.func17, Try.ntmps17
        go_wp2_with fail
        refine (isField_any r cc p n c l _ HS1.out.ints (by omega)).mono ?_
        rintro e w2 ⟨rfl, hb⟩
        have HS2 := hid (HS1.out.step hb)
        rw [HFB.out]
        clear hb g5 g0 g1 g2 g3 g4
        have g0 := HS2.out.c0; have g1 := HS2.out.c1; have g2 := HS2.out.c2; have g3 := HS2.out.c3; have g4 := HS2.out.c4; have g5 := HS2.out.c5
        go_wp2_with fail
        refine (isLot_any _ _ _ _ _ _ _ _ _).mono ?_
        rintro e w3 ⟨rfl, hb⟩
        have HS3 := hid (HS2.out.step hb)
        rw [HLB.out]
        clear hb g5 g0 g1 g2 g3 g4
        have g0 := HS3.out.c0; have g1 := HS3.out.c1; have g2 := HS3.out.c2; have g3 := HS3.out.c3; have g4 := HS3.out.c4; have g5 := HS3.out.c5
        go_wp2_with fail
        refine (awake_any _).mono ?_
        rintro e w99 ⟨rfl, hb⟩
        go_wp2_with fail
        go_ret
        exact ⟨rfl, HS3.out.below.trans (hb.mono HS3.out.below.size)⟩
      · have HLB := hid hLb
        by_cases hd0 : draws = 0
        · have hd0b : (draws == 0) = true := by simp [hd0]
          clear hF hLb hd0
          have HS1 := hid (LotW.start (r := r) (cc := cc) (c := c) (seed := seed) (stp := stp) (draws := draws) (d := 0) hl hcs0)
          have HLW := hid hl; have HCW := hid hcs0
          clear hl hcs0
          have g0 := HS1.out.c0; have g1 := HS1.out.c1; have g2 := HS1.out.c2; have g3 := HS1.out.c3; have g4 := HS1.out.c4; have g5 := HS1.out.c5
          go_enter Try.func17, Try.ntmps17
          go_wp2_with fail
          refine (isField_any r cc p n c l _ HS1.out.ints (by omega)).mono ?_
          rintro e w2 ⟨rfl, hb⟩
          have HS2 := hid (HS1.out.step hb)
          rw [HFB.out]
          clear hb g5 g0 g1 g2 g3 g4
          have g0 := HS2.out.c0; have g1 := HS2.out.c1; have g2 := HS2.out.c2; have g3 := HS2.out.c3; have g4 := HS2.out.c4; have g5 := HS2.out.c5
          go_wp2_with fail
          refine (isLot_any _ _ _ _ _ _ _ _ _).mono ?_
          rintro e w3 ⟨rfl, hb⟩
          have HS3 := hid (HS2.out.step hb)
          rw [HLB.out]
          clear hb g5 g0 g1 g2 g3 g4
          have g0 := HS3.out.c0; have g1 := HS3.out.c1; have g2 := HS3.out.c2; have g3 := HS3.out.c3; have g4 := HS3.out.c4; have g5 := HS3.out.c5
          go_wp2_with fail
          refine (awake_any _).mono ?_
          rintro e w99 ⟨rfl, hb⟩
          go_wp2_with fail
          go_ret
          exact ⟨rfl, HS3.out.below.trans (hb.mono HS3.out.below.size)⟩
        · have hd0b : (draws == 0) = false := by simp [hd0]
          have hlb : 0 ≤ seed ∧ seed ≤ 9999 ∧ 0 ≤ stp ∧ stp ≤ 9999 ∧ 0 ≤ draws ∧ draws ≤ 6 ∧ draws ≤ n := by
            have h := hLb
            simp only [isLotB, inB, Bool.and_eq_true, decide_eq_true_eq] at h
            omega
          have HLL := hid hlb
          have hL2 : isLotB n seed stp (draws - 1) = true := by simp only [isLotB, inB, Bool.and_eq_true, decide_eq_true_eq]; omega
          have hn1 : 1 ≤ n ∧ n ≤ 9 := by have := HFF.out; have := HNL.out; omega
          have HN := hid hn1
          obtain ⟨P, hP⟩ : ∃ a, drawL n seed stp draws = a := ⟨_, rfl⟩
          obtain ⟨P2, hP2⟩ : ∃ a, drawL n seed stp (draws - 1) = a := ⟨_, rfl⟩
          have hE0 : drawE r cc l seed stp draws = 0 := by rw [drawE, hF, ← HNL.out, hLb]; rfl
          have hE20 : drawE r cc l seed stp (draws - 1) = 0 := by rw [drawE, hF, ← HNL.out, hL2]; rfl
          have HE := hid hE0; have HE2 := hid hE20
          have HP : Hid (drawV r cc l seed stp draws = P) := by show _ = _; rw [drawV, hE0, if_pos rfl, ← HNL.out, hP]
          have HP2 : Hid (drawV r cc l seed stp (draws - 1) = P2) := by show _ = _; rw [drawV, hE20, if_pos rfl, ← HNL.out, hP2]
          have hPF := drawL_facts (L := n) (seed := seed) (step := stp) (draws := draws) hn1.1 hlb.2.2.2.2.2.2
          have hPF2 := drawL_facts (L := n) (seed := seed) (step := stp) (draws := draws - 1) hn1.1 (by omega)
          obtain ⟨z, hz⟩ : ∃ z, P = P2 ++ [z] := by
            obtain ⟨z, hz⟩ := drawG_snoc n stp (draws - 1).toNat 0 seed []
            refine ⟨z, ?_⟩
            rw [← hP, ← hP2, drawL, drawL, ← hz, show (draws - 1).toNat + 1 = draws.toNat by omega]
          rw [hP] at hPF
          rw [hP2] at hPF2
          have HPF := hid hPF; have HZ := hid hz
          have HPI : Hid ((P.length : Int) = draws) := by show _ = _; rw [hPF.2.2]; omega
          have HPI2 : Hid ((P2.length : Int) = draws - 1) := by show _ = _; rw [hPF2.2.2]; omega
          have HPL : Hid (P2.length + 1 = P.length ∧ P.length ≤ 6) := by have h1 := HPI.out; have h2 := HPI2.out; show _ ∧ _; omega
          have HPN : Hid (P ≠ []) := by show P ≠ []; rw [hz]; simp
          have HPX : Hid (drawL n seed stp draws = P) := hP
          clear hP hP2 hE0 hE20 hPF hPF2 hz hL2 hlb hF hLb hn1
          have HS1 := hid (LotW.start (r := r) (cc := cc) (c := c) (seed := seed) (stp := stp) (draws := draws) (d := 0) hl hcs0)
          have HLW := hid hl; have HCW := hid hcs0
          clear hl hcs0
          have g0 := HS1.out.c0; have g1 := HS1.out.c1; have g2 := HS1.out.c2; have g3 := HS1.out.c3; have g4 := HS1.out.c4; have g5 := HS1.out.c5
          go_enter Try.func17, Try.ntmps17
          go_wp2_with fail
          refine (isField_any r cc p n c l _ HS1.out.ints (by omega)).mono ?_
          rintro e w2 ⟨rfl, hb⟩
          have HS2 := hid (HS1.out.step hb)
          rw [HFB.out]
          clear hb g5 g0 g1 g2 g3 g4
          have g0 := HS2.out.c0; have g1 := HS2.out.c1; have g2 := HS2.out.c2; have g3 := HS2.out.c3; have g4 := HS2.out.c4; have g5 := HS2.out.c5
          go_wp2_with fail
          refine (isLot_any _ _ _ _ _ _ _ _ _).mono ?_
          rintro e w3 ⟨rfl, hb⟩
          have HS3 := hid (HS2.out.step hb)
          rw [HLB.out]
          clear hb g5 g0 g1 g2 g3 g4
          have g0 := HS3.out.c0; have g1 := HS3.out.c1; have g2 := HS3.out.c2; have g3 := HS3.out.c3; have g4 := HS3.out.c4; have g5 := HS3.out.c5
          go_wp2_with fail
          clear g0 g1 g2 g3 g4 g5
          refine wp_region_held_drew (S := fun V => LotW w r cc p n c l seed stp draws none 0 0 [] V) (by kernel_rfl) (HS3.out.step (Below.refl _ _).drew) (fun hS => ?_)
          simp only [List.size_toArray, List.length_cons, List.length_nil, Nat.reduceAdd, Array.replicate_succ, Array.replicate_zero, List.push_toArray, List.nil_append, List.cons_append]
          refine wpAnyH_take (i := 0) (v := ?_) rfl (by kernel_rfl) (by kernel_rfl) (by kernel_rfl) (fun _ _ _ h => h) (Or.inl ⟨by rfl, fun V hV => ?_⟩) (by assumption) ?_
          rotate_left
          · have g0 := hV.c0; have g1 := hV.c1; have g2 := hV.c2; go_simp
            try with_reducible rfl
          try simp only [Act.put, List.getElem_toArray, List.getElem_cons_zero, List.setIfInBounds_toArray, List.set_cons_zero, List.set_cons_succ]
          refine wpAnyH_take (i := 2) (v := ?_) rfl (by kernel_rfl) (by kernel_rfl) (by kernel_rfl) (fun _ _ _ h => h) (Or.inl ⟨by rfl, fun V hV => ?_⟩) (by assumption) ?_
          rotate_left
          · have g3 := hV.c3; have g4 := hV.c4; have g5 := hV.c5; go_simp
            try with_reducible rfl
          try simp only [Act.put, List.getElem_toArray, List.getElem_cons_zero, List.getElem_cons_succ, List.setIfInBounds_toArray, List.set_cons_zero, List.set_cons_succ]
          refine wpAnyH_ready (rs := [1]) (by kernel_rfl) (by simp) ?_
          refine AllReadyH.cons (o := _) rfl (fun K hK => ?_) AllReadyH.nil
          go_simp
          refine (fieldX_any r cc p n c l _ hS.ints (by have := HN.out; omega)).mono ?_
          rintro e V1 ⟨p1, c1, rfl, hi1, hb1, _⟩
          have HI1 := hid hi1
          clear hi1
          refine hK.out _ _ (hS.step hb1) (fun hS => ?_)
          clear hK K
          try simp only [List.setIfInBounds_toArray, List.set_cons_zero, List.set_cons_succ]
          refine wpAnyH_ready (rs := [3]) (by kernel_rfl) (by simp) ?_
          refine AllReadyH.cons (o := _) rfl (fun K hK => ?_) AllReadyH.nil
          go_simp
          refine (lotX_any seed stp draws _).mono ?_
          rintro e V3 ⟨rfl, hb3⟩
          have HI1 := hid (HI1.out.below hb3)
          refine hK.out _ _ (hS.step hb3) (fun hS => ?_)
          clear hK K
          try simp only [List.setIfInBounds_toArray, List.set_cons_zero, List.set_cons_succ]
          refine wpAnyH_ready (rs := [4]) (by kernel_rfl) (by simp) ?_
          refine AllReadyH.cons (o := _) rfl (fun K hK => ?_) AllReadyH.nil
          go_simp
          have hDr := Draw_any r cc p1 n c1 l seed stp draws _ HI1.out (by have := HN.out; omega)
          rw [HP.out, HE.out] at hDr
          refine hDr.mono ?_
          clear hDr
          rintro e V4 ⟨v4, rfl, ho4, hb4⟩
          obtain ⟨pa, ca, rfl, hia⟩ := ho4.slice
          have hca : P.length ≤ ca := by
            obtain ⟨_, _, _, _, h5, _⟩ := ho4.left.2 HPN.out
            exact h5
          have HIA := hid hia; have HCA := hid hca
          clear hia ho4 hca
          refine hK.out _ _ (hS.step hb4) (fun hS => ?_)
          clear hK K
          try simp only [List.setIfInBounds_toArray, List.set_cons_zero, List.set_cons_succ]
          refine wpAnyH_take (i := 5) (v := ?_) rfl (by kernel_rfl) (by kernel_rfl) (by kernel_rfl) (fun _ _ _ h => h) (Or.inl ⟨by rfl, fun V hV => ?_⟩) (by assumption) ?_
          rotate_left
          · go_simp
            try with_reducible rfl
          try simp only [Act.put, List.getElem_toArray, List.getElem_cons_zero, List.getElem_cons_succ, List.setIfInBounds_toArray, List.set_cons_zero, List.set_cons_succ]
          refine wpAnyH_take (i := 6) (v := ?_) rfl (by kernel_rfl) (by kernel_rfl) (by kernel_rfl) (fun _ _ _ h => h) (Or.inl ⟨by rfl, fun V hV => ?_⟩) (by assumption) ?_
          rotate_left
          · go_simp
            try with_reducible rfl
          try simp only [Act.put, List.getElem_toArray, List.getElem_cons_zero, List.getElem_cons_succ, List.setIfInBounds_toArray, List.set_cons_zero, List.set_cons_succ]
          refine wpAnyH_take (i := 7) (v := ?_) rfl (by kernel_rfl) (by kernel_rfl) (by kernel_rfl) (fun _ _ _ h => h) (Or.inl ⟨by rfl, fun V hV => ?_⟩) (by assumption) ?_
          rotate_left
          · go_simp
            try with_reducible rfl
          try simp only [Act.put, List.getElem_toArray, List.getElem_cons_zero, List.getElem_cons_succ, List.setIfInBounds_toArray, List.set_cons_zero, List.set_cons_succ]
          refine wpAnyH_take (i := 8) (v := ?_) rfl (by kernel_rfl) (by kernel_rfl) (by kernel_rfl) (fun _ _ _ h => h) (Or.inl ⟨by rfl, fun V hV => ?_⟩) (by assumption) ?_
          rotate_left
          · go_simp
            try with_reducible rfl
          try simp only [Act.put, List.getElem_toArray, List.getElem_cons_zero, List.getElem_cons_succ, List.setIfInBounds_toArray, List.set_cons_zero, List.set_cons_succ]
          refine wpAnyH_take (i := 9) (v := ?_) rfl (by kernel_rfl) (by kernel_rfl) (by kernel_rfl) (fun _ _ _ h => h) (Or.inl ⟨by rfl, fun V hV => ?_⟩) (by assumption) ?_
          rotate_left
          · go_simp
            try with_reducible rfl
          try simp only [Act.put, List.getElem_toArray, List.getElem_cons_zero, List.getElem_cons_succ, List.setIfInBounds_toArray, List.set_cons_zero, List.set_cons_succ]
          refine wpAnyH_done (by kernel_rfl) ?_ _
          have HS4 := hid hS
          clear hS
          obtain ⟨ba, oa, hpa, _, _⟩ := HIA.out.at (i := 0) (by have := HPL.out; omega)
          subst hpa
          have g0 := HS4.out.c0; have g1 := HS4.out.c1; have g2 := HS4.out.c2; have g3 := HS4.out.c3; have g4 := HS4.out.c4; have g5 := HS4.out.c5
          obtain ⟨w5, hw5⟩ : ∃ a, V4.alloc (.cells #[.int .i64 seed, .int .i64 stp, .int .i64 draws] 84) = a := ⟨_, rfl⟩
          obtain ⟨w6, hw6⟩ : ∃ a, w5.setCell ⟨V4.heap.size, 2, none⟩ (.int .i64 (draws - 1)) = a := ⟨_, rfl⟩
          have hy5 : BoxIs V4.heap.size #[.int .i64 seed, .int .i64 stp, .int .i64 draws] w5 := by rw [← hw5]; exact BoxIs.start _ _ _
          have hb5 : Below V4.heap.size V4 w5 := by rw [← hw5]; exact (Below.refl _ _).alloc (Nat.le_refl _) _
          have hb6 : Below V4.heap.size V4 w6 := by rw [← hw6]; exact hb5.setCell (p := ⟨V4.heap.size, 2, none⟩) (Nat.le_refl _) _
          have hy6 : BoxIs V4.heap.size #[.int .i64 seed, .int .i64 stp, .int .i64 (draws - 1)] w6 := by rw [← hw6]; exact hy5.put (j := 2) (.int .i64 (draws - 1))
          have k2 := (hy5.2 2 _ rfl).1; have f2 := (hy5.2 2 _ rfl).2
          have e1 : IntKind.i64.wrap (draws - 1) = draws - 1 := IntWalk.i64_in _ (by have := HLL.out; omega)
          have HS6 := hid (HS4.out.step hb6); have HIA6 := hid (HIA.out.below hb6); have HY6 := hid hy6
          clear hy5 hb5 hb6 hy6 HIA
          have HIA := HIA6
          clear HIA6
          obtain ⟨bL, hbL⟩ : ∃ a, V4.heap.size = a := ⟨_, rfl⟩
          rw [hbL] at hw6 HY6 k2 f2
          have HBL := hid hbL
          go_upto_region 6 with fail
          try rw [HBL.out]
          clear k2 f2 e1 g0 g1 g2 g3 g4 g5 hw5 hw6 hbL
          have HIA := hid HIA.out.drew
          refine wp_region_held_drew (S := fun V => LotW w r cc p n c l seed stp draws none 0 0 [] V ∧ BoxIs bL #[.int .i64 seed, .int .i64 stp, .int .i64 (draws - 1)] V) (by kernel_rfl) (⟨HS6.out.step (Below.refl _ _).drew, HY6.out.below (Below.refl _ _).drew⟩) (fun hS => ?_)
          simp only [List.size_toArray, List.length_cons, List.length_nil, Nat.reduceAdd, Array.replicate_succ, Array.replicate_zero, List.push_toArray, List.nil_append, List.cons_append]
          refine wpAnyH_take (i := 0) (v := ?_) rfl (by kernel_rfl) (by kernel_rfl) (by kernel_rfl) (fun _ _ _ h => h) (Or.inl ⟨by rfl, fun V hV => ?_⟩) (by assumption) ?_
          rotate_left
          · have g0 := hV.1.c0; have g1 := hV.1.c1; have g2 := hV.1.c2; go_simp
            try with_reducible rfl
          try simp only [Act.put, List.getElem_toArray, List.getElem_cons_zero, List.setIfInBounds_toArray, List.set_cons_zero, List.set_cons_succ]
          refine wpAnyH_take (i := 2) (v := ?_) rfl (by kernel_rfl) (by kernel_rfl) (by kernel_rfl) (fun _ _ _ h => h) (Or.inl ⟨by rfl, fun V hV => ?_⟩) (by assumption) ?_
          rotate_left
          · have g3 := (hV.2.2 0 _ rfl).1; have g4 := (hV.2.2 1 _ rfl).1; have g5 := (hV.2.2 2 _ rfl).1; go_simp
            try with_reducible rfl
          try simp only [Act.put, List.getElem_toArray, List.getElem_cons_zero, List.getElem_cons_succ, List.setIfInBounds_toArray, List.set_cons_zero, List.set_cons_succ]
          refine wpAnyH_ready (rs := [1]) (by kernel_rfl) (by simp) ?_
          refine AllReadyH.cons (o := _) rfl (fun K hK => ?_) AllReadyH.nil
          go_simp
          refine (fieldX_any r cc p n c l _ hS.1.ints (by have := HN.out; omega)).mono ?_
          rintro e U1 ⟨p2, c2, rfl, hi1, hb1, _⟩
          have HI2 := hid hi1
          have HIA := hid (HIA.out.below hb1)
          clear hi1
          refine hK.out _ _ (⟨hS.1.step hb1, hS.2.below hb1⟩) (fun hS => ?_)
          clear hK K
          try simp only [List.setIfInBounds_toArray, List.set_cons_zero, List.set_cons_succ]
          refine wpAnyH_ready (rs := [3]) (by kernel_rfl) (by simp) ?_
          refine AllReadyH.cons (o := _) rfl (fun K hK => ?_) AllReadyH.nil
          go_simp
          refine (lotX_any seed stp (draws - 1) _).mono ?_
          rintro e U3 ⟨rfl, hb3⟩
          have HI2 := hid (HI2.out.below hb3); have HIA := hid (HIA.out.below hb3)
          refine hK.out _ _ (⟨hS.1.step hb3, hS.2.below hb3⟩) (fun hS => ?_)
          clear hK K
          try simp only [List.setIfInBounds_toArray, List.set_cons_zero, List.set_cons_succ]
          refine wpAnyH_ready (rs := [4]) (by kernel_rfl) (by simp) ?_
          refine AllReadyH.cons (o := _) rfl (fun K hK => ?_) AllReadyH.nil
          go_simp
          have hDr := Draw_any r cc p2 n c2 l seed stp (draws - 1) _ HI2.out (by have := HN.out; omega)
          rw [HP2.out, HE2.out] at hDr
          refine hDr.mono ?_
          clear hDr
          rintro e U4 ⟨v4, rfl, ho4, hb4⟩
          obtain ⟨pb, cb, rfl, hib⟩ := ho4.slice
          have HIB := hid hib; have HIA := hid (HIA.out.below hb4)
          clear hib ho4
          refine hK.out _ _ (⟨hS.1.step hb4, hS.2.below hb4⟩) (fun hS => ?_)
          clear hK K
          try simp only [List.setIfInBounds_toArray, List.set_cons_zero, List.set_cons_succ]
          refine wpAnyH_take (i := 5) (v := ?_) rfl (by kernel_rfl) (by kernel_rfl) (by kernel_rfl) (fun _ _ _ h => h) (Or.inl ⟨by rfl, fun V hV => ?_⟩) (by assumption) ?_
          rotate_left
          · go_simp
            try with_reducible rfl
          try simp only [Act.put, List.getElem_toArray, List.getElem_cons_zero, List.getElem_cons_succ, List.setIfInBounds_toArray, List.set_cons_zero, List.set_cons_succ]
          refine wpAnyH_take (i := 6) (v := ?_) rfl (by kernel_rfl) (by kernel_rfl) (by kernel_rfl) (fun _ _ _ h => h) (Or.inl ⟨by rfl, fun V hV => ?_⟩) (by assumption) ?_
          rotate_left
          · go_simp
            try with_reducible rfl
          try simp only [Act.put, List.getElem_toArray, List.getElem_cons_zero, List.getElem_cons_succ, List.setIfInBounds_toArray, List.set_cons_zero, List.set_cons_succ]
          refine wpAnyH_take (i := 7) (v := ?_) rfl (by kernel_rfl) (by kernel_rfl) (by kernel_rfl) (fun _ _ _ h => h) (Or.inl ⟨by rfl, fun V hV => ?_⟩) (by assumption) ?_
          rotate_left
          · go_simp
            try with_reducible rfl
          try simp only [Act.put, List.getElem_toArray, List.getElem_cons_zero, List.getElem_cons_succ, List.setIfInBounds_toArray, List.set_cons_zero, List.set_cons_succ]
          refine wpAnyH_take (i := 8) (v := ?_) rfl (by kernel_rfl) (by kernel_rfl) (by kernel_rfl) (fun _ _ _ h => h) (Or.inl ⟨by rfl, fun V hV => ?_⟩) (by assumption) ?_
          rotate_left
          · go_simp
            try with_reducible rfl
          try simp only [Act.put, List.getElem_toArray, List.getElem_cons_zero, List.getElem_cons_succ, List.setIfInBounds_toArray, List.set_cons_zero, List.set_cons_succ]
          refine wpAnyH_take (i := 9) (v := ?_) rfl (by kernel_rfl) (by kernel_rfl) (by kernel_rfl) (fun _ _ _ h => h) (Or.inl ⟨by rfl, fun V hV => ?_⟩) (by assumption) ?_
          rotate_left
          · go_simp
            try with_reducible rfl
          try simp only [Act.put, List.getElem_toArray, List.getElem_cons_zero, List.getElem_cons_succ, List.setIfInBounds_toArray, List.set_cons_zero, List.set_cons_succ]
          refine wpAnyH_done (by kernel_rfl) ?_ _
          have HS8 := hid hS.1; have HY8 := hid hS.2
          clear hS
          have g0 := HS8.out.c0; have g1 := HS8.out.c1; have g2 := HS8.out.c2; have g3 := HS8.out.c3; have g4 := HS8.out.c4; have g5 := HS8.out.c5
          have y2 := (HY8.out.2 2 _ rfl).1
          have e1 : ((P.length : Int) != draws) = false := by simp [HPI.out]
          have e2 : ((P2.length : Int) != draws - 1) = false := by simp [HPI2.out]
          have e3 : P2.length ≤ ca ∧ P2.length ≤ P.length := by have := HPL.out; have := HCA.out; omega
          have e4 : (P2.length : Int) ≤ ca ∧ (P2.length : Int) ≤ P.length := by omega
          have HIA8 := hid HIA.out
          have hip : IntsAt U4 (some ⟨ba, oa, none⟩) P2.length P2 := by have h := HIA.out; rw [HZ.out] at h; exact h.pre
          have HIP := hid hip
          clear hip
          go_wp2_with fail
          refine (sameX_any _ P2.length _ P2 pb P2.length cb P2 _ HIP.out HIB.out (by have := HPL.out; omega) (by have := HPL.out; omega)).mono ?_
          rintro e w9 ⟨rfl, hb⟩
          have HS9 := hid (HS8.out.step hb)
          have HIA9 := hid (HIA8.out.below hb)
          rw [sameB_self]
          clear hb y2 e1 e2 e3 e4 g5 g0 g1 g2 g3 g4
          have g0 := HS9.out.c0; have g1 := HS9.out.c1; have g2 := HS9.out.c2; have g3 := HS9.out.c3; have g4 := HS9.out.c4; have g5 := HS9.out.c5
          clear g0 g1 g2 g3 g4 g5
          obtain ⟨B, hB⟩ : ∃ a, w9.heap.size = a := ⟨_, rfl⟩
          have HBB := hid hB
          have HB2 : Hid (w.heap.size + 2 ≤ B) := by show _ ≤ _; rw [← hB]; exact HS9.out.box.size
          have HBA : Hid (ba < B) := by
            obtain ⟨b9, o9, e9, h9, _⟩ := HIA9.out.at (i := 0) (by have := HPL.out; omega)
            cases e9
            show ba < B; rw [← hB]; exact h9
          clear hB
          go_wp2_with fail
          go_loopw [10, 11] (fun v i wr => ∃ k : Nat, k ≤ P.length ∧ i = .int .i64 k ∧ OwnRef wr B v ((P.take (min k 5)).map (fun y => (⟨y, 0, 0, false⟩ : Cnt))) ∧ LotW w r cc p n c l seed stp draws none 0 0 [] wr ∧ IntsAt wr (some ⟨ba, oa, none⟩) P.length P ∧ B ≤ wr.heap.size) (fun _ i _ => P.length - (intOf i).toNat)
          case atStart => exact ⟨0, by omega, rfl, ownRef_none _ _, HS9.out, HIA9.out, Nat.le_of_eq HBB.out.symm⟩
          case round =>
            obtain ⟨k, hk, rfl, ho, hS, hI, hBs⟩ := hrel
            have HOr := hid ho; have HSr := hid hS; have HIr := hid hI; have HBS := hid hBs
            clear ho hS hI hBs
            have g2 := HSr.out.c2
            by_cases hlt : k < P.length
            · skip
              obtain ⟨y, hy⟩ : ∃ a, P[k]?.getD 0 = a := ⟨_, rfl⟩
              have hyk : P[k]? = some y := by rw [← hy, List.getElem?_eq_getElem hlt]; rfl
              have hc0 := HIr.out.get hlt
              rw [hy] at hc0
              have HYK := hid hyk
              have hin : inB y 0 ((n : Int) - 1) = true := by have h := HPF.out.2.1 y (List.mem_of_getElem? hyk); simp [inB]; omega
              have HIN := hid hin
              have hno : hasB (P.take k) y = false := by
                rw [hasB_false]
                intro hm
                obtain ⟨j, hj⟩ := List.mem_iff_getElem?.1 hm
                rw [List.getElem?_take] at hj
                split at hj
                · have h1 := HPF.out.1
                  have e := (List.getElem?_eq_some_iff.1 hj)
                  have e2 := (List.getElem?_eq_some_iff.1 hyk)
                  obtain ⟨a1, a2⟩ := e; obtain ⟨b1, b2⟩ := e2
                  have := (List.getElem?_inj a1 h1).1 (show P[j]? = P[k]? by rw [List.getElem?_eq_getElem a1, List.getElem?_eq_getElem b1, a2, b2])
                  omega
                · cases hj
              have HNO := hid hno
              have HKC : Hid (k ≤ ca ∧ k ≤ P.length) := ⟨by have := HCA.out; omega, hk⟩
              have HPK : Hid (IntsAt wr (some ⟨ba, oa, none⟩) k (P.take k)) := by
                have h := HIr.out
                have e : P = P.take k ++ P.drop k := (List.take_append_drop k P).symm
                rw [e] at h
                have h2 := h.pre
                rw [List.length_take, Nat.min_eq_left hk] at h2
                exact h2
              clear hy hyk hin hno
              go_wp2_with fail
              refine wp_region_held_drew (S := fun V => V = wr.drew) (by kernel_rfl) (rfl) (fun hS => ?_)
              simp only [List.size_toArray, List.length_cons, List.length_nil, Nat.reduceAdd, Array.replicate_succ, Array.replicate_zero, List.push_toArray, List.nil_append, List.cons_append]
              refine wpAnyH_take (i := 0) (v := ?_) rfl (by kernel_rfl) (by kernel_rfl) (by kernel_rfl) (fun _ _ _ h => h) (Or.inl ⟨by rfl, fun V hV => ?_⟩) (by assumption) ?_
              rotate_left
              · go_simp
                try with_reducible rfl
              try simp only [Act.put, List.getElem_toArray, List.getElem_cons_zero, List.setIfInBounds_toArray, List.set_cons_zero, List.set_cons_succ]
              refine wpAnyH_take (i := 1) (v := ?_) rfl (by kernel_rfl) (by kernel_rfl) (by kernel_rfl) (fun _ _ _ h => h) (Or.inl ⟨by rfl, fun V hV => ?_⟩) (by assumption) ?_
              rotate_left
              · go_simp
                try with_reducible rfl
              try simp only [Act.put, List.getElem_toArray, List.getElem_cons_zero, List.getElem_cons_succ, List.setIfInBounds_toArray, List.set_cons_zero, List.set_cons_succ]
              refine wpAnyH_take (i := 2) (v := ?_) rfl (by kernel_rfl) (by kernel_rfl) (by kernel_rfl) (fun _ _ _ h => h) (Or.inl ⟨by rfl, fun V hV => ?_⟩) (by assumption) ?_
              rotate_left
              · go_simp
                try with_reducible rfl
              try simp only [Act.put, List.getElem_toArray, List.getElem_cons_zero, List.getElem_cons_succ, List.setIfInBounds_toArray, List.set_cons_zero, List.set_cons_succ]
              refine wpAnyH_take (i := 3) (v := ?_) rfl (by kernel_rfl) (by kernel_rfl) (by kernel_rfl) (fun _ _ _ h => h) (Or.inl ⟨by rfl, fun V hV => ?_⟩) (by assumption) ?_
              rotate_left
              · cases hV; have c3 : wr.drew.cell? ⟨ba, oa + k, none⟩ = some (.int .i64 y) := hc0; go_simp
                try with_reducible rfl
              try simp only [Act.put, List.getElem_toArray, List.getElem_cons_zero, List.getElem_cons_succ, List.setIfInBounds_toArray, List.set_cons_zero, List.set_cons_succ]
              refine wpAnyH_take (i := 4) (v := ?_) rfl (by kernel_rfl) (by kernel_rfl) (by kernel_rfl) (fun _ _ _ h => h) (Or.inl ⟨by rfl, fun V hV => ?_⟩) (by assumption) ?_
              rotate_left
              · go_simp
                try with_reducible rfl
              try simp only [Act.put, List.getElem_toArray, List.getElem_cons_zero, List.getElem_cons_succ, List.setIfInBounds_toArray, List.set_cons_zero, List.set_cons_succ]
              refine wpAnyH_take (i := 5) (v := ?_) rfl (by kernel_rfl) (by kernel_rfl) (by kernel_rfl) (fun _ _ _ h => h) (Or.inl ⟨by rfl, fun V hV => ?_⟩) (by assumption) ?_
              rotate_left
              · cases hV; have c3 : wr.drew.cell? ⟨w.heap.size, 2, none⟩ = some (.slice p n c) := g2; go_simp
                try with_reducible rfl
              try simp only [Act.put, List.getElem_toArray, List.getElem_cons_zero, List.getElem_cons_succ, List.setIfInBounds_toArray, List.set_cons_zero, List.set_cons_succ]
              refine wpAnyH_take (i := 6) (v := ?_) rfl (by kernel_rfl) (by kernel_rfl) (by kernel_rfl) (fun _ _ _ h => h) (Or.inl ⟨by rfl, fun V hV => ?_⟩) (by assumption) ?_
              rotate_left
              · go_simp
                try with_reducible rfl
              try simp only [Act.put, List.getElem_toArray, List.getElem_cons_zero, List.getElem_cons_succ, List.setIfInBounds_toArray, List.set_cons_zero, List.set_cons_succ]
              refine wpAnyH_take (i := 7) (v := ?_) rfl (by kernel_rfl) (by kernel_rfl) (by kernel_rfl) (fun _ _ _ h => h) (Or.inl ⟨by rfl, fun V hV => ?_⟩) (by assumption) ?_
              rotate_left
              · have e1 : IntKind.i64.wrap ((n : Int) - 1) = (n : Int) - 1 := IntWalk.i64_in _ (by have := HN.out; omega); go_simp
                try with_reducible rfl
              try simp only [Act.put, List.getElem_toArray, List.getElem_cons_zero, List.getElem_cons_succ, List.setIfInBounds_toArray, List.set_cons_zero, List.set_cons_succ]
              refine wpAnyH_ready (rs := [8]) (by kernel_rfl) (by simp) ?_
              refine AllReadyH.cons (o := _) rfl (fun K hK => ?_) AllReadyH.nil
              go_simp
              have hin := in_any y 0 ((n : Int) - 1) wr.drew
              rw [HIN.out] at hin
              refine hin.mono ?_
              clear hin
              rintro e w' ⟨rfl, rfl⟩
              refine hK.out _ _ (rfl) (fun hS => ?_)
              clear hK K
              try simp only [List.setIfInBounds_toArray, List.set_cons_zero, List.set_cons_succ]
              refine wpAnyH_take (i := 9) (v := ?_) rfl (by kernel_rfl) (by kernel_rfl) (by kernel_rfl) (fun _ _ _ h => h) (Or.inl ⟨by rfl, fun V hV => ?_⟩) (by assumption) ?_
              rotate_left
              · go_simp
                try with_reducible rfl
              try simp only [Act.put, List.getElem_toArray, List.getElem_cons_zero, List.getElem_cons_succ, List.setIfInBounds_toArray, List.set_cons_zero, List.set_cons_succ]
              refine wpAnyH_take (i := 10) (v := ?_) rfl (by kernel_rfl) (by kernel_rfl) (by kernel_rfl) (fun _ _ _ h => h) (Or.inl ⟨by rfl, fun V hV => ?_⟩) (by assumption) ?_
              rotate_left
              · go_simp
                try with_reducible rfl
              try simp only [Act.put, List.getElem_toArray, List.getElem_cons_zero, List.getElem_cons_succ, List.setIfInBounds_toArray, List.set_cons_zero, List.set_cons_succ]
              refine wpAnyH_take (i := 11) (v := ?_) rfl (by kernel_rfl) (by kernel_rfl) (by kernel_rfl) (fun _ _ _ h => h) (Or.inl ⟨by rfl, fun V hV => ?_⟩) (by assumption) ?_
              rotate_left
              · go_simp
                try with_reducible rfl
              try simp only [Act.put, List.getElem_toArray, List.getElem_cons_zero, List.getElem_cons_succ, List.setIfInBounds_toArray, List.set_cons_zero, List.set_cons_succ]
              refine wpAnyH_take (i := 12) (v := ?_) rfl (by kernel_rfl) (by kernel_rfl) (by kernel_rfl) (fun _ _ _ h => h) (Or.inl ⟨by rfl, fun V hV => ?_⟩) (by assumption) ?_
              rotate_left
              · go_simp
                try with_reducible rfl
              try simp only [Act.put, List.getElem_toArray, List.getElem_cons_zero, List.getElem_cons_succ, List.setIfInBounds_toArray, List.set_cons_zero, List.set_cons_succ]
              refine wpAnyH_take (i := 13) (v := ?_) rfl (by kernel_rfl) (by kernel_rfl) (by kernel_rfl) (fun _ _ _ h => h) (Or.inl ⟨by rfl, fun V hV => ?_⟩) (by assumption) ?_
              rotate_left
              · have e1 := HKC.out.1; have e2 : (k : Int) ≤ ca := (by omega); have e3 := HKC.out.2; have e4 : (k : Int) ≤ P.length := (by omega); go_simp
                try with_reducible rfl
              try simp only [Act.put, List.getElem_toArray, List.getElem_cons_zero, List.getElem_cons_succ, List.setIfInBounds_toArray, List.set_cons_zero, List.set_cons_succ]
              refine wpAnyH_take (i := 14) (v := ?_) rfl (by kernel_rfl) (by kernel_rfl) (by kernel_rfl) (fun _ _ _ h => h) (Or.inl ⟨by rfl, fun V hV => ?_⟩) (by assumption) ?_
              rotate_left
              · go_simp
                try with_reducible rfl
              try simp only [Act.put, List.getElem_toArray, List.getElem_cons_zero, List.getElem_cons_succ, List.setIfInBounds_toArray, List.set_cons_zero, List.set_cons_succ]
              refine wpAnyH_take (i := 15) (v := ?_) rfl (by kernel_rfl) (by kernel_rfl) (by kernel_rfl) (fun _ _ _ h => h) (Or.inl ⟨by rfl, fun V hV => ?_⟩) (by assumption) ?_
              rotate_left
              · go_simp
                try with_reducible rfl
              try simp only [Act.put, List.getElem_toArray, List.getElem_cons_zero, List.getElem_cons_succ, List.setIfInBounds_toArray, List.set_cons_zero, List.set_cons_succ]
              refine wpAnyH_take (i := 16) (v := ?_) rfl (by kernel_rfl) (by kernel_rfl) (by kernel_rfl) (fun _ _ _ h => h) (Or.inl ⟨by rfl, fun V hV => ?_⟩) (by assumption) ?_
              rotate_left
              · have e1 : (k : Int) < P.length := (by omega); go_simp
                try with_reducible rfl
              try simp only [Act.put, List.getElem_toArray, List.getElem_cons_zero, List.getElem_cons_succ, List.setIfInBounds_toArray, List.set_cons_zero, List.set_cons_succ]
              refine wpAnyH_take (i := 17) (v := ?_) rfl (by kernel_rfl) (by kernel_rfl) (by kernel_rfl) (fun _ _ _ h => h) (Or.inl ⟨by rfl, fun V hV => ?_⟩) (by assumption) ?_
              rotate_left
              · cases hV; have c3 : wr.drew.cell? ⟨ba, oa + k, none⟩ = some (.int .i64 y) := hc0; go_simp
                try with_reducible rfl
              try simp only [Act.put, List.getElem_toArray, List.getElem_cons_zero, List.getElem_cons_succ, List.setIfInBounds_toArray, List.set_cons_zero, List.set_cons_succ]
              refine wpAnyH_ready (rs := [18]) (by kernel_rfl) (by simp) ?_
              refine AllReadyH.cons (o := _) rfl (fun K hK => ?_) AllReadyH.nil
              go_simp
              have hno := has_any (some ⟨ba, oa, none⟩) k ca (P.take k) y wr.drew HPK.out.drew (by have := HPL.out; have := HKC.out; omega)
              rw [HNO.out] at hno
              refine hno.mono ?_
              clear hno
              rintro e w' ⟨rfl, rfl⟩
              refine hK.out _ _ (rfl) (fun hS => ?_)
              clear hK K
              try simp only [List.setIfInBounds_toArray, List.set_cons_zero, List.set_cons_succ]
              refine wpAnyH_take (i := 19) (v := ?_) rfl (by kernel_rfl) (by kernel_rfl) (by kernel_rfl) (fun _ _ _ h => h) (Or.inl ⟨by rfl, fun V hV => ?_⟩) (by assumption) ?_
              rotate_left
              · go_simp
                try with_reducible rfl
              try simp only [Act.put, List.getElem_toArray, List.getElem_cons_zero, List.getElem_cons_succ, List.setIfInBounds_toArray, List.set_cons_zero, List.set_cons_succ]
              refine wpAnyH_done (by kernel_rfl) ?_ _
              clear hS
              have hcd : wr.drew.cell? ⟨ba, oa + k, none⟩ = some (.int .i64 y) := hc0
              clear hc0
              obtain ⟨wd, hwd⟩ : ∃ a, wr.drew = a := ⟨_, rfl⟩
              have HSd : Hid (LotW w r cc p n c l seed stp draws none 0 0 [] wd) := by rw [← hwd]; exact HSr.out.step (Below.refl _ _).drew
              have HId : Hid (IntsAt wd (some ⟨ba, oa, none⟩) P.length P) := by rw [← hwd]; exact HIr.out
              have HOd : Hid (OwnRef wd B u10 ((P.take (min k 5)).map (fun y => (⟨y, 0, 0, false⟩ : Cnt)))) := by rw [← hwd]; exact HOr.out
              have HBd : Hid (B ≤ wd.heap.size) := by rw [← hwd]; exact HBS.out
              rw [hwd] at hcd ⊢
              clear hwd g2
              by_cases h5 : k < 5
              · have h5i : (k : Int) < 5 := by omega
                have HT : Hid ((P.take (min k 5)).map (fun y => (⟨y, 0, 0, false⟩ : Cnt)) ++ [⟨y, 0, 0, false⟩] = (P.take (min (k + 1) 5)).map (fun y => (⟨y, 0, 0, false⟩ : Cnt))) := by
                  show _ = _
                  rw [Nat.min_eq_left (by omega), Nat.min_eq_left (by omega), List.take_add_one, HYK.out]
                  simp
                obtain ⟨we, hwe⟩ : ∃ a, wd.alloc (.cells #[.int .i64 y, .int .i64 0, .int .i64 0, .bool false] 59) = a := ⟨_, rfl⟩
                have hbe : Below wd.heap.size wd we := by rw [← hwe]; exact (Below.refl _ _).alloc (Nat.le_refl _) _
                have HS1e := hid (HSd.out.step hbe); have HI1e := hid (HId.out.below hbe); have HO1e := hid (HOd.out.below hbe)
                have HC1e : Hid (CntsAt we (some ⟨wd.heap.size, 0, none⟩) 1 [⟨y, 0, 0, false⟩]) := by rw [← hwe]; exact cnt_one wd ⟨y, 0, 0, false⟩
                have HBe : Hid (B ≤ we.heap.size) := Nat.le_trans HBd.out hbe.size
                have HLe : Hid (((P.take (min k 5)).map (fun y => (⟨y, 0, 0, false⟩ : Cnt))).length ≤ 1000000) := by show List.length _ ≤ 1000000; rw [List.length_map, List.length_take]; omega
                clear hbe
                go_wp2_with (at_builtin; refine append_refs (by rfl) (.tmp 115) (.tmp 121) (by rfl) B _ _ ⟨wd.heap.size, 0, none⟩ 1 1 _ HO1e.out (by rfl) (by rfl) HC1e.out HLe.out (by decide) HBe.out ?_; intro v4 w33 ho4 hb4)
                go_roundw
                case rel => exact ⟨k + 1, by omega, by go_num, by rw [← HT.out]; exact ho4, HS1e.out.far HLW.out HCW.out hb4 HB2.out, HI1e.out.kept (fun a ha _ _ => by cases ha; exact hb4.block _ HBA.out), Nat.le_trans HBe.out hb4.size⟩
                case measure => simp [intOf]; omega
              · have h5i : ¬ (k : Int) < 5 := by omega
                have hk6 : (k : Int) ≤ 6 := by have := HPL.out; omega
                have HT : Hid (P.take (min k 5) = P.take (min (k + 1) 5)) := by show _ = _; rw [Nat.min_eq_right (by omega), Nat.min_eq_right (by omega)]
                go_wp2
                go_roundw
                case rel => exact ⟨k + 1, by omega, by go_num, by rw [← HT.out]; exact HOd.out, HSd.out, HId.out, HBd.out⟩
                case measure => simp [intOf]; omega
            · skip
              obtain rfl : k = P.length := by omega
              have ho5 := HOr.out
              rw [show (P.take (min P.length 5)) = P.take 5 by rw [Nat.min_comm, ← List.take_take, List.take_length]] at ho5
              obtain ⟨C, hC⟩ : ∃ a, (P.take 5).map (fun y => (⟨y, 0, 0, false⟩ : Cnt)) = a := ⟨_, rfl⟩
              rw [hC] at ho5
              have hC5 : 1 ≤ C.length ∧ C.length ≤ 5 := by rw [← hC, List.length_map, List.length_take]; have := HPL.out; omega
              have HC5 := hid hC5
              obtain ⟨q5, d5, hq5, hcc⟩ := ho5.slice
              subst hq5
              have HCC := hid hcc
              have hfv := foreign_none (P := P) HPX.out (by have := HN.out; omega) HLL.out.2.2.2.2.2.2 hC
              have HFV : Hid (foreignE r cc l seed stp draws C = 0 ∧ foreignV r cc l seed stp draws C = []) := by
                have e0 : foreignE r cc l seed stp draws C = 0 := by rw [foreignE, HE.out, if_pos rfl, if_neg (by omega)]
                refine ⟨e0, ?_⟩
                rw [foreignV, e0, if_pos rfl, HP.out, ← HPX.out, for_foreign (by have := HN.out; omega) HLL.out.2.2.2.2.2.2]
                exact hfv.1
              obtain ⟨C0, hC0⟩ : ∃ a, C[0]? = some a := ⟨C[0], List.getElem?_eq_getElem (by omega)⟩
              have HFV2 : Hid (foreignE r cc l seed stp draws (C ++ [C0]) = 0 ∧ foreignV r cc l seed stp draws (C ++ [C0]) = [(C.length : Int)]) := by
                have e0 : foreignE r cc l seed stp draws (C ++ [C0]) = 0 := by rw [foreignE, HE.out, if_pos rfl, if_neg (by simp; omega)]
                refine ⟨e0, ?_⟩
                rw [foreignV, e0, if_pos rfl, HP.out, ← HPX.out, for_foreign (by have := HN.out; omega) HLL.out.2.2.2.2.2.2]
                exact hfv.2 C0 hC0
              have HC0 := hid hC0
              clear hC ho5 hC5 hcc hfv hC0 HOr
              obtain ⟨bq, oq, hbq, _, _, _, _, _⟩ : ∃ bq oq, q5 = some ⟨bq, oq, none⟩ ∧ True ∧ True ∧ True ∧ True ∧ True := by
                obtain ⟨b, o, e, _⟩ := HCC.out.2 0 C0 HC0.out
                exact ⟨b, o, e, trivial, trivial, trivial, trivial, trivial⟩
              subst hbq
              go_wp2_with fail
              refine wp_region_held_drew (S := fun V => LotW w r cc p n c l seed stp draws none 0 0 [] V ∧ CntsAt V (some ⟨bq, oq, none⟩) C.length C) (by kernel_rfl) (⟨HSr.out.step (Below.refl _ _).drew, HCC.out.drewC⟩) (fun hS => ?_)
              simp only [List.size_toArray, List.length_cons, List.length_nil, Nat.reduceAdd, Array.replicate_succ, Array.replicate_zero, List.push_toArray, List.nil_append, List.cons_append]
              refine wpAnyH_take (i := 0) (v := ?_) rfl (by kernel_rfl) (by kernel_rfl) (by kernel_rfl) (fun _ _ _ h => h) (Or.inl ⟨by rfl, fun V hV => ?_⟩) (by assumption) ?_
              rotate_left
              · have g0 := hV.1.c0; have g1 := hV.1.c1; have g2 := hV.1.c2; go_simp
                try with_reducible rfl
              try simp only [Act.put, List.getElem_toArray, List.getElem_cons_zero, List.setIfInBounds_toArray, List.set_cons_zero, List.set_cons_succ]
              refine wpAnyH_take (i := 2) (v := ?_) rfl (by kernel_rfl) (by kernel_rfl) (by kernel_rfl) (fun _ _ _ h => h) (Or.inl ⟨by rfl, fun V hV => ?_⟩) (by assumption) ?_
              rotate_left
              · have g3 := hV.1.c3; have g4 := hV.1.c4; have g5 := hV.1.c5; go_simp
                try with_reducible rfl
              try simp only [Act.put, List.getElem_toArray, List.getElem_cons_zero, List.getElem_cons_succ, List.setIfInBounds_toArray, List.set_cons_zero, List.set_cons_succ]
              refine wpAnyH_take (i := 4) (v := ?_) rfl (by kernel_rfl) (by kernel_rfl) (by kernel_rfl) (fun _ _ _ h => h) (Or.inl ⟨by rfl, fun V hV => ?_⟩) (by assumption) ?_
              rotate_left
              · go_simp
                try with_reducible rfl
              try simp only [Act.put, List.getElem_toArray, List.getElem_cons_zero, List.getElem_cons_succ, List.setIfInBounds_toArray, List.set_cons_zero, List.set_cons_succ]
              refine wpAnyH_ready (rs := [1]) (by kernel_rfl) (by simp) ?_
              refine AllReadyH.cons (o := _) rfl (fun K hK => ?_) AllReadyH.nil
              go_simp
              refine (fieldX_any r cc p n c l _ hS.1.ints (by have := HN.out; omega)).mono ?_
              rintro e X1 ⟨p3, c3, rfl, hi1, hb1, _⟩
              have HI3 := hid hi1
              clear hi1
              refine hK.out _ _ (⟨hS.1.step hb1, hS.2.below hb1⟩) (fun hS => ?_)
              clear hK K
              try simp only [List.setIfInBounds_toArray, List.set_cons_zero, List.set_cons_succ]
              refine wpAnyH_ready (rs := [3]) (by kernel_rfl) (by simp) ?_
              refine AllReadyH.cons (o := _) rfl (fun K hK => ?_) AllReadyH.nil
              go_simp
              refine (lotX_any seed stp draws _).mono ?_
              rintro e X3 ⟨rfl, hb3⟩
              have HI3 := hid (HI3.out.below hb3)
              refine hK.out _ _ (⟨hS.1.step hb3, hS.2.below hb3⟩) (fun hS => ?_)
              clear hK K
              try simp only [List.setIfInBounds_toArray, List.set_cons_zero, List.set_cons_succ]
              refine wpAnyH_ready (rs := [5]) (by kernel_rfl) (by simp) ?_
              refine AllReadyH.cons (o := _) rfl (fun K hK => ?_) AllReadyH.nil
              go_simp
              refine (countsX_any _ C.length d5 C _ hS.2 (by have := HC5.out; omega)).mono ?_
              rintro e X5 ⟨v5, rfl, ho5, hb5⟩
              obtain ⟨q6, d6, rfl, hc5⟩ := ho5.slice
              have HC6 := hid hc5; have HI3 := hid (HI3.out.below hb5)
              clear hc5 ho5
              refine hK.out _ _ (⟨hS.1.step hb5, hS.2.below hb5⟩) (fun hS => ?_)
              clear hK K
              try simp only [List.setIfInBounds_toArray, List.set_cons_zero, List.set_cons_succ]
              refine wpAnyH_ready (rs := [6]) (by kernel_rfl) (by simp) ?_
              refine AllReadyH.cons (o := _) rfl (fun K hK => ?_) AllReadyH.nil
              go_simp
              have hFo := Foreign_any r cc p3 n c3 l seed stp draws q6 _ d6 C _ HI3.out (by have := HN.out; omega) HC6.out (by have := HC5.out; omega)
              rw [HFV.out.1, HFV.out.2] at hFo
              refine hFo.mono ?_
              clear hFo
              rintro e X6 ⟨v6, rfl, ho6, hb6⟩
              obtain ⟨px, cx, rfl, _⟩ := ho6.slice
              clear ho6
              refine hK.out _ _ (⟨hS.1.step hb6, hS.2.below hb6⟩) (fun hS => ?_)
              clear hK K
              try simp only [List.setIfInBounds_toArray, List.set_cons_zero, List.set_cons_succ]
              refine wpAnyH_take (i := 7) (v := ?_) rfl (by kernel_rfl) (by kernel_rfl) (by kernel_rfl) (fun _ _ _ h => h) (Or.inl ⟨by rfl, fun V hV => ?_⟩) (by assumption) ?_
              rotate_left
              · go_simp
                try with_reducible rfl
              try simp only [Act.put, List.getElem_toArray, List.getElem_cons_zero, List.getElem_cons_succ, List.setIfInBounds_toArray, List.set_cons_zero, List.set_cons_succ]
              refine wpAnyH_take (i := 8) (v := ?_) rfl (by kernel_rfl) (by kernel_rfl) (by kernel_rfl) (fun _ _ _ h => h) (Or.inl ⟨by rfl, fun V hV => ?_⟩) (by assumption) ?_
              rotate_left
              · go_simp
                try with_reducible rfl
              try simp only [Act.put, List.getElem_toArray, List.getElem_cons_zero, List.getElem_cons_succ, List.setIfInBounds_toArray, List.set_cons_zero, List.set_cons_succ]
              refine wpAnyH_take (i := 9) (v := ?_) rfl (by kernel_rfl) (by kernel_rfl) (by kernel_rfl) (fun _ _ _ h => h) (Or.inl ⟨by rfl, fun V hV => ?_⟩) (by assumption) ?_
              rotate_left
              · go_simp
                try with_reducible rfl
              try simp only [Act.put, List.getElem_toArray, List.getElem_cons_zero, List.getElem_cons_succ, List.setIfInBounds_toArray, List.set_cons_zero, List.set_cons_succ]
              refine wpAnyH_take (i := 10) (v := ?_) rfl (by kernel_rfl) (by kernel_rfl) (by kernel_rfl) (fun _ _ _ h => h) (Or.inl ⟨by rfl, fun V hV => ?_⟩) (by assumption) ?_
              rotate_left
              · go_simp
                try with_reducible rfl
              try simp only [Act.put, List.getElem_toArray, List.getElem_cons_zero, List.getElem_cons_succ, List.setIfInBounds_toArray, List.set_cons_zero, List.set_cons_succ]
              refine wpAnyH_take (i := 11) (v := ?_) rfl (by kernel_rfl) (by kernel_rfl) (by kernel_rfl) (fun _ _ _ h => h) (Or.inl ⟨by rfl, fun V hV => ?_⟩) (by assumption) ?_
              rotate_left
              · go_simp
                try with_reducible rfl
              try simp only [Act.put, List.getElem_toArray, List.getElem_cons_zero, List.getElem_cons_succ, List.setIfInBounds_toArray, List.set_cons_zero, List.set_cons_succ]
              refine wpAnyH_done (by kernel_rfl) ?_ _
              have HS17 := hid hS.1; have HC17 := hid hS.2
              clear hS
              obtain ⟨wm, hwm⟩ : ∃ a, X6 = a := ⟨_, rfl⟩
              rw [hwm] at HS17 HC17 ⊢
              clear hwm
              obtain ⟨M, hM⟩ : ∃ a, wm.heap.size = a := ⟨_, rfl⟩
              have HMM := hid hM
              clear hM
              have HM2 : Hid (w.heap.size + 2 ≤ M) := by show _ ≤ M; rw [← HMM.out]; exact HS17.out.box.size
              obtain ⟨C', hC'⟩ : ∃ L, C ++ [C0] = L := ⟨_, rfl⟩
              have HCE := hid hC'
              have HFV3 : Hid (foreignE r cc l seed stp draws C' = 0 ∧ foreignV r cc l seed stp draws C' = [(C.length : Int)]) := by show _ ∧ _; rw [← hC']; exact HFV2.out
              have HCL : Hid (C'.length ≤ 6) := by show _ ≤ _; rw [← hC']; have := HC5.out; simp; omega
              clear hC'
              go_upto_region 18 with fail
              go_cut [14, 15] from 16 (fun v14 v15 wz => ∃ py cy, v14 = .slice py 1 cy ∧ v15 = .int .i64 0 ∧ IntsAt wz py 1 [(C.length : Int)] ∧ LotW w r cc p n c l seed stp draws none 0 0 [] wz)
              case first =>
                have hBN : Below M wm wm.drew := (Below.refl _ _).drew
                have HBQ : Hid (bq < M) := by
                  obtain ⟨b9, o9, e9, h9, _⟩ := HC17.out.2 0 C0 HC0.out
                  cases e9
                  show bq < M; rw [← HMM.out]; exact h9
                refine wp_region_held_drew (S := fun V => LotW w r cc p n c l seed stp draws none 0 0 [] V ∧ CntsAt V (some ⟨bq, oq, none⟩) C.length C) (by kernel_rfl) (⟨HS17.out.step (Below.refl _ _).drew, HC17.out.drewC⟩) (fun hS => ?_)
                simp only [List.size_toArray, List.length_cons, List.length_nil, Nat.reduceAdd, Array.replicate_succ, Array.replicate_zero, List.push_toArray, List.nil_append, List.cons_append]
                refine wpAnyH_take (i := 0) (v := ?_) rfl (by kernel_rfl) (by kernel_rfl) (by kernel_rfl) (fun _ _ _ h => h) (Or.inl ⟨by rfl, fun V hV => ?_⟩) (by assumption) ?_
                rotate_left
                · have g0 := hV.1.c0; have g1 := hV.1.c1; have g2 := hV.1.c2; go_simp
                  try with_reducible rfl
                try simp only [Act.put, List.getElem_toArray, List.getElem_cons_zero, List.setIfInBounds_toArray, List.set_cons_zero, List.set_cons_succ]
                refine wpAnyH_take (i := 2) (v := ?_) rfl (by kernel_rfl) (by kernel_rfl) (by kernel_rfl) (fun _ _ _ h => h) (Or.inl ⟨by rfl, fun V hV => ?_⟩) (by assumption) ?_
                rotate_left
                · have g3 := hV.1.c3; have g4 := hV.1.c4; have g5 := hV.1.c5; go_simp
                  try with_reducible rfl
                try simp only [Act.put, List.getElem_toArray, List.getElem_cons_zero, List.getElem_cons_succ, List.setIfInBounds_toArray, List.set_cons_zero, List.set_cons_succ]
                refine wpAnyH_take (i := 5) (v := ?_) rfl (by kernel_rfl) (by kernel_rfl) (by kernel_rfl) (fun _ _ _ h => h) (Or.inl ⟨by rfl, fun V hV => ?_⟩) (by assumption) ?_
                rotate_left
                · go_simp
                  try with_reducible rfl
                try simp only [Act.put, List.getElem_toArray, List.getElem_cons_zero, List.getElem_cons_succ, List.setIfInBounds_toArray, List.set_cons_zero, List.set_cons_succ]
                refine wpAnyH_take (i := 7) (v := ?_) rfl (by kernel_rfl) (by kernel_rfl) (by kernel_rfl) (fun _ _ _ h => h) (Or.inl ⟨by rfl, fun V hV => ?_⟩) (by assumption) ?_
                rotate_left
                · go_simp
                  try with_reducible rfl
                try simp only [Act.put, List.getElem_toArray, List.getElem_cons_zero, List.getElem_cons_succ, List.setIfInBounds_toArray, List.set_cons_zero, List.set_cons_succ]
                refine wpAnyH_take (i := 8) (v := ?_) rfl (by kernel_rfl) (by kernel_rfl) (by kernel_rfl) (fun _ _ _ h => h) (Or.inl ⟨by rfl, fun V hV => ?_⟩) (by assumption) ?_
                rotate_left
                · have e1 : 0 < C.length := (by have := HC5.out; omega); have e2 : (0 : Int) < C.length := (by omega); go_simp
                  try with_reducible rfl
                try simp only [Act.put, List.getElem_toArray, List.getElem_cons_zero, List.getElem_cons_succ, List.setIfInBounds_toArray, List.set_cons_zero, List.set_cons_succ]
                refine wpAnyH_take (i := 9) (v := ?_) rfl (by kernel_rfl) (by kernel_rfl) (by kernel_rfl) (fun _ _ _ h => h) (Or.inl ⟨by rfl, fun V hV => ?_⟩) (by assumption) ?_
                rotate_left
                · obtain ⟨b9, o9, e9, _, q0, q1, q2, q3⟩ := hV.2.2 0 C0 HC0.out; cases e9; rw [Nat.zero_mul, Nat.add_zero] at q0 q1 q2 q3; go_simp
                  try with_reducible rfl
                try simp only [Act.put, List.getElem_toArray, List.getElem_cons_zero, List.getElem_cons_succ, List.setIfInBounds_toArray, List.set_cons_zero, List.set_cons_succ]
                refine wpAnyH_ready (rs := [1, 4, 10]) (by kernel_rfl) (by simp) ?_
                refine AllReadyH.cons (o := _) rfl (fun K hK => ?_) ?_
                · skip
                  go_simp
                  have hszp : M ≤ wm.heap.size := by rw [← HMM.out]; exact hBN.size
                  refine (fieldX_any r cc p n c l _ hS.1.ints (by have := HN.out; omega)).mono ?_
                  rintro e Y1 ⟨p4, c4, rfl, hi1, hb1, hp4⟩
                  replace hBN := hBN.trans (hb1.mono hszp)
                  have HI4 := hid hi1
                  clear hi1 hszp hp4
                  refine hK.out _ _ (⟨hS.1.step hb1, hS.2.below hb1⟩) (fun hS => ?_)
                  clear hK K
                  try simp only [List.setIfInBounds_toArray, List.set_cons_zero, List.set_cons_succ]
                  refine wpAnyH_ready (rs := [3, 4, 10]) (by kernel_rfl) (by simp) ?_
                  refine AllReadyH.cons (o := _) rfl (fun K hK => ?_) ?_
                  · skip
                    go_simp
                    have hszp : M ≤ Y1.heap.size := by rw [← HMM.out]; exact hBN.size
                    refine (lotX_any seed stp draws _).mono ?_
                    rintro e Y3 ⟨rfl, hb3⟩
                    replace hBN := hBN.trans (hb3.mono hszp)
                    have HI4 := hid (HI4.out.below hb3)
                    clear hszp
                    refine hK.out _ _ (⟨hS.1.step hb3, hS.2.below hb3⟩) (fun hS => ?_)
                    clear hK K
                    try simp only [List.setIfInBounds_toArray, List.set_cons_zero, List.set_cons_succ]
                    refine wpAnyH_ready (rs := [4, 10]) (by kernel_rfl) (by simp) ?_
                    refine AllReadyH.cons (o := _) rfl (fun K hK => ?_) ?_
                    · skip
                      have hszp : M ≤ Y3.heap.size := by rw [← HMM.out]; exact hBN.size
                      have F41 : Hid (∀ a, p4 = some a → a.block ≠ Y3.heap.size) := by
                        intro a ha
                        obtain ⟨b, o, e, hlt, _⟩ := HI4.out.at (i := 0) (by have := HN.out; omega)
                        rw [ha] at e
                        cases e
                        exact Nat.ne_of_lt hlt
                      obtain ⟨Y4, hY4⟩ : ∃ V, (Y3).alloc (.cells #[] 59) = V := ⟨_, rfl⟩
                      have hb : Below (Y3).heap.size (Y3) Y4 := by rw [← hY4]; exact (Below.refl _ _).alloc (Nat.le_refl _) _
                      replace hBN := hBN.trans (hb.mono hszp)
                      have HI4 := hid (HI4.out.below hb)
                      have o4 : OwnRef Y4 M (.slice (some ⟨Y3.heap.size, 0, none⟩) 0 0) [] := by rw [← hY4]; exact ownRef_nil _ hszp
                      go_simp
                      clear hszp
                      refine hK.out _ _ (⟨hS.1.step hb, hS.2.below hb⟩) (fun hS => ?_)
                      clear hK K
                      try simp only [List.setIfInBounds_toArray, List.set_cons_zero, List.set_cons_succ]
                      refine wpAnyH_ready (rs := [6, 10]) (by kernel_rfl) (by simp) ?_
                      refine AllReadyH.cons (o := _) rfl (fun K hK => ?_) ?_
                      · skip
                        have hszp : M ≤ Y4.heap.size := by rw [← HMM.out]; exact hBN.size
                        refine step_append_ref1 (by rfl) (.tmp 138) (.tmp 139) (by rfl) M _ (some ⟨bq, oq, none⟩) C.length d5 C o4 (by rfl) (by rfl) hS.2 HC5.out.1 (by have := HC5.out; omega) hszp ?_
                        intro g6 c6 Y6 o6 hb hk hg6
                        have F61 : Hid (∀ a, p4 = some a → a.block ≠ g6) := by
                          intro a ha
                          obtain ⟨b, o, e, hlt, _⟩ := HI4.out.at (i := 0) (by have := HN.out; omega)
                          have h4 := F41.out a ha
                          rw [ha] at e
                          cases e
                          rcases hg6 with e1 | e1
                          · have e2 : Y3.heap.size = g6 := (by simpa [Value.ownBlock] using e1)
                            rw [← e2]; exact h4
                          · rw [e1]; exact Nat.ne_of_lt hlt
                        have HI4 := hid (HI4.out.kept (fun a ha _ hlt => hk _ hlt (by intro e; have e2 : a.block = Y3.heap.size := (by simpa [Value.ownBlock] using e); exact F41.out a ha e2)))
                        replace hBN := hBN.trans hb
                        clear o4 hszp hg6
                        refine hK.out _ _ (⟨hS.1.far HLW.out HCW.out hb HM2.out, hS.2.far HBQ.out hb⟩) (fun hS => ?_)
                        clear hK K
                        try simp only [Act.put, List.getElem_toArray, List.getElem_cons_zero, List.getElem_cons_succ, List.setIfInBounds_toArray, List.set_cons_zero, List.set_cons_succ]
                        refine wpAnyH_ready (rs := [10]) (by kernel_rfl) (by simp) ?_
                        refine AllReadyH.cons (o := _) rfl (fun K hK => ?_) AllReadyH.nil
                        have hszp : M ≤ Y6.heap.size := by rw [← HMM.out]; exact hBN.size
                        obtain ⟨Y10, hY10⟩ : ∃ V, (Y6).alloc (.cells #[.int .i64 C0.place, .int .i64 C0.lo, .int .i64 C0.hi, .bool C0.late] 59) = V := ⟨_, rfl⟩
                        have hb : Below (Y6).heap.size (Y6) Y10 := by rw [← hY10]; exact (Below.refl _ _).alloc (Nat.le_refl _) _
                        replace hBN := hBN.trans (hb.mono hszp)
                        have HI4 := hid (HI4.out.below hb)
                        replace o6 := o6.below hb
                        have o10 : OwnRef Y10 M (.slice (some ⟨Y6.heap.size, 0, none⟩) 1 1) [C0] := by rw [← hY10]; exact (ownRef_one _ C0).base hszp
                        go_simp
                        clear hszp
                        refine hK.out _ _ (⟨hS.1.step hb, hS.2.below hb⟩) (fun hS => ?_)
                        clear hK K
                        try simp only [List.setIfInBounds_toArray, List.set_cons_zero, List.set_cons_succ]
                        refine wpAnyH_ready (rs := [11]) (by kernel_rfl) (by simp) ?_
                        refine AllReadyH.cons (o := _) rfl (fun K hK => ?_) AllReadyH.nil
                        have hszp : M ≤ Y10.heap.size := by rw [← HMM.out]; exact hBN.size
                        have hsrc : CntsAt Y10 (some ⟨Y6.heap.size, 0, none⟩) 1 [C0] := by
                          obtain ⟨p7, c9, e7, h7⟩ := o10.slice
                          cases e7
                          exact h7
                        refine step_append_ref (by rfl) (.tmp 140) (.tmp 144) (by rfl) M _ C (some ⟨Y6.heap.size, 0, none⟩) 1 1 [C0] o6 (by rfl) (by rfl) hsrc (by have := HC5.out; omega) (by decide) hszp ?_
                        intro v11 Y11 o11 hb hk
                        have HI4 := hid (HI4.out.kept (fun a ha _ hlt => hk _ hlt (by intro e; have e2 : a.block = g6 := (by simpa [Value.ownBlock] using e); exact F61.out a ha e2)))
                        replace hBN := hBN.trans hb
                        rw [HCE.out] at o11
                        obtain ⟨q11, d11, rfl, hc11⟩ := o11.slice
                        have HC11 := hid hc11
                        clear o10 o6 o11 hc11 hsrc hszp
                        refine hK.out _ _ (⟨hS.1.far HLW.out HCW.out hb HM2.out, hS.2.far HBQ.out hb⟩) (fun hS => ?_)
                        clear hK K
                        try simp only [Act.put, List.getElem_toArray, List.getElem_cons_zero, List.getElem_cons_succ, List.setIfInBounds_toArray, List.set_cons_zero, List.set_cons_succ]
                        refine wpAnyH_ready (rs := [12]) (by kernel_rfl) (by simp) ?_
                        refine AllReadyH.cons (o := _) rfl (fun K hK => ?_) AllReadyH.nil
                        go_simp
                        have hszp : M ≤ Y11.heap.size := by rw [← HMM.out]; exact hBN.size
                        refine (countsX_any q11 C'.length d11 C' _ HC11.out (by have := HCL.out; omega)).mono ?_
                        rintro e Y12 ⟨v5, rfl, ho5, hb5⟩
                        obtain ⟨q12, d12, rfl, hc12⟩ := ho5.slice
                        have HC12 := hid hc12; have HI4 := hid (HI4.out.below hb5)
                        clear hc12 ho5 hszp
                        refine hK.out _ _ (⟨hS.1.step hb5, hS.2.below hb5⟩) (fun hS => ?_)
                        clear hK K
                        try simp only [List.setIfInBounds_toArray, List.set_cons_zero, List.set_cons_succ]
                        refine wpAnyH_ready (rs := [13]) (by kernel_rfl) (by simp) ?_
                        refine AllReadyH.cons (o := _) rfl (fun K hK => ?_) AllReadyH.nil
                        go_simp
                        have hFo := Foreign_any r cc p4 n c4 l seed stp draws q12 C'.length d12 C' _ HI4.out (by have := HN.out; omega) HC12.out (by have := HCL.out; omega)
                        rw [HFV3.out.1, HFV3.out.2] at hFo
                        refine hFo.mono ?_
                        clear hFo
                        rintro e Y13 ⟨v6, rfl, ho6, hb6⟩
                        obtain ⟨py, cy, rfl, hiy⟩ := ho6.slice
                        have HIY := hid hiy
                        clear ho6 hiy
                        refine hK.out _ _ (⟨hS.1.step hb6, hS.2.below hb6⟩) (fun hS => ?_)
                        clear hK K
                        try simp only [List.setIfInBounds_toArray, List.set_cons_zero, List.set_cons_succ]
                        refine wpAnyH_take (i := 14) (v := ?_) rfl (by kernel_rfl) (by kernel_rfl) (by kernel_rfl) (fun _ _ _ h => h) (Or.inl ⟨by rfl, fun V hV => ?_⟩) (by assumption) ?_
                        rotate_left
                        · go_simp
                          try with_reducible rfl
                        try simp only [Act.put, List.getElem_toArray, List.getElem_cons_zero, List.getElem_cons_succ, List.setIfInBounds_toArray, List.set_cons_zero, List.set_cons_succ]
                        refine wpAnyH_take (i := 15) (v := ?_) rfl (by kernel_rfl) (by kernel_rfl) (by kernel_rfl) (fun _ _ _ h => h) (Or.inl ⟨by rfl, fun V hV => ?_⟩) (by assumption) ?_
                        rotate_left
                        · go_simp
                          try with_reducible rfl
                        try simp only [Act.put, List.getElem_toArray, List.getElem_cons_zero, List.getElem_cons_succ, List.setIfInBounds_toArray, List.set_cons_zero, List.set_cons_succ]
                        refine wpAnyH_take (i := 16) (v := ?_) rfl (by kernel_rfl) (by kernel_rfl) (by kernel_rfl) (fun _ _ _ h => h) (Or.inl ⟨by rfl, fun V hV => ?_⟩) (by assumption) ?_
                        rotate_left
                        · go_simp
                          try with_reducible rfl
                        try simp only [Act.put, List.getElem_toArray, List.getElem_cons_zero, List.getElem_cons_succ, List.setIfInBounds_toArray, List.set_cons_zero, List.set_cons_succ]
                        refine wpAnyH_take (i := 17) (v := ?_) rfl (by kernel_rfl) (by kernel_rfl) (by kernel_rfl) (fun _ _ _ h => h) (Or.inl ⟨by rfl, fun V hV => ?_⟩) (by assumption) ?_
                        rotate_left
                        · go_simp
                          try with_reducible rfl
                        try simp only [Act.put, List.getElem_toArray, List.getElem_cons_zero, List.getElem_cons_succ, List.setIfInBounds_toArray, List.set_cons_zero, List.set_cons_succ]
                        refine wpAnyH_take (i := 18) (v := ?_) rfl (by kernel_rfl) (by kernel_rfl) (by kernel_rfl) (fun _ _ _ h => h) (Or.inl ⟨by rfl, fun V hV => ?_⟩) (by assumption) ?_
                        rotate_left
                        · go_simp
                          try with_reducible rfl
                        try simp only [Act.put, List.getElem_toArray, List.getElem_cons_zero, List.getElem_cons_succ, List.setIfInBounds_toArray, List.set_cons_zero, List.set_cons_succ]
                        refine wpAnyH_done (by kernel_rfl) ?_ _
                        have HSZ := hid hS.1
                        clear hS
                        go_wp2
                        go_meet
                        case rel => exact ⟨py, _, rfl, rfl, HIY.out, HSZ.out⟩
                      refine AllReadyH.cons (o := _) rfl (fun K hK => ?_) AllReadyH.nil
                      have hszp : M ≤ Y4.heap.size := by rw [← HMM.out]; exact hBN.size
                      have HNE : Hid (Y4.heap.size ≠ Y3.heap.size) := Nat.ne_of_gt (World.ownsRow.lt o4 _ rfl).2
                      obtain ⟨Y10, hY10⟩ : ∃ V, (Y4).alloc (.cells #[.int .i64 C0.place, .int .i64 C0.lo, .int .i64 C0.hi, .bool C0.late] 59) = V := ⟨_, rfl⟩
                      have hb : Below (Y4).heap.size (Y4) Y10 := by rw [← hY10]; exact (Below.refl _ _).alloc (Nat.le_refl _) _
                      replace hBN := hBN.trans (hb.mono hszp)
                      have HI4 := hid (HI4.out.below hb)
                      replace o4 := o4.below hb
                      have o10 : OwnRef Y10 M (.slice (some ⟨Y4.heap.size, 0, none⟩) 1 1) [C0] := by rw [← hY10]; exact (ownRef_one _ C0).base hszp
                      go_simp
                      clear hszp
                      refine hK.out _ _ (⟨hS.1.step hb, hS.2.below hb⟩) (fun hS => ?_)
                      clear hK K
                      try simp only [List.setIfInBounds_toArray, List.set_cons_zero, List.set_cons_succ]
                      refine wpAnyH_ready (rs := [6]) (by kernel_rfl) (by simp) ?_
                      refine AllReadyH.cons (o := _) rfl (fun K hK => ?_) AllReadyH.nil
                      have hszp : M ≤ Y10.heap.size := by rw [← HMM.out]; exact hBN.size
                      refine step_append_ref1 (by rfl) (.tmp 138) (.tmp 139) (by rfl) M _ (some ⟨bq, oq, none⟩) C.length d5 C o4 (by rfl) (by rfl) hS.2 HC5.out.1 (by have := HC5.out; omega) hszp ?_
                      intro g6 c6 Y6 o6 hb hk hg6
                      have F61 : Hid (∀ a, p4 = some a → a.block ≠ g6) := by
                        intro a ha
                        obtain ⟨b, o, e, hlt, _⟩ := HI4.out.at (i := 0) (by have := HN.out; omega)
                        have h4 := F41.out a ha
                        rw [ha] at e
                        cases e
                        rcases hg6 with e1 | e1
                        · have e2 : Y3.heap.size = g6 := (by simpa [Value.ownBlock] using e1)
                          rw [← e2]; exact h4
                        · rw [e1]; exact Nat.ne_of_lt hlt
                      have HI4 := hid (HI4.out.kept (fun a ha _ hlt => hk _ hlt (by intro e; have e2 : a.block = Y3.heap.size := (by simpa [Value.ownBlock] using e); exact F41.out a ha e2)))
                      replace hBN := hBN.trans hb
                      replace o10 := (show OwnRef Y6 M _ [C0] from row_block o10 (fun u hu => hk u (World.ownsRow.lt o10 u hu).2 (by intro e; have e1 : Y4.heap.size = u := (by simpa [Value.ownBlock] using hu); have e2 : u = Y3.heap.size := (by simpa [Value.ownBlock] using e); have e3 := HNE.out; omega)))
                      clear o4 hszp hg6
                      refine hK.out _ _ (⟨hS.1.far HLW.out HCW.out hb HM2.out, hS.2.far HBQ.out hb⟩) (fun hS => ?_)
                      clear hK K
                      try simp only [Act.put, List.getElem_toArray, List.getElem_cons_zero, List.getElem_cons_succ, List.setIfInBounds_toArray, List.set_cons_zero, List.set_cons_succ]
                      refine wpAnyH_ready (rs := [11]) (by kernel_rfl) (by simp) ?_
                      refine AllReadyH.cons (o := _) rfl (fun K hK => ?_) AllReadyH.nil
                      have hszp : M ≤ Y6.heap.size := by rw [← HMM.out]; exact hBN.size
                      have hsrc : CntsAt Y6 (some ⟨Y4.heap.size, 0, none⟩) 1 [C0] := by
                        obtain ⟨p7, c9, e7, h7⟩ := o10.slice
                        cases e7
                        exact h7
                      refine step_append_ref (by rfl) (.tmp 140) (.tmp 144) (by rfl) M _ C (some ⟨Y4.heap.size, 0, none⟩) 1 1 [C0] o6 (by rfl) (by rfl) hsrc (by have := HC5.out; omega) (by decide) hszp ?_
                      intro v11 Y11 o11 hb hk
                      have HI4 := hid (HI4.out.kept (fun a ha _ hlt => hk _ hlt (by intro e; have e2 : a.block = g6 := (by simpa [Value.ownBlock] using e); exact F61.out a ha e2)))
                      replace hBN := hBN.trans hb
                      rw [HCE.out] at o11
                      obtain ⟨q11, d11, rfl, hc11⟩ := o11.slice
                      have HC11 := hid hc11
                      clear o10 o6 o11 hc11 hsrc hszp
                      refine hK.out _ _ (⟨hS.1.far HLW.out HCW.out hb HM2.out, hS.2.far HBQ.out hb⟩) (fun hS => ?_)
                      clear hK K
                      try simp only [Act.put, List.getElem_toArray, List.getElem_cons_zero, List.getElem_cons_succ, List.setIfInBounds_toArray, List.set_cons_zero, List.set_cons_succ]
                      refine wpAnyH_ready (rs := [12]) (by kernel_rfl) (by simp) ?_
                      refine AllReadyH.cons (o := _) rfl (fun K hK => ?_) AllReadyH.nil
                      go_simp
                      have hszp : M ≤ Y11.heap.size := by rw [← HMM.out]; exact hBN.size
                      refine (countsX_any q11 C'.length d11 C' _ HC11.out (by have := HCL.out; omega)).mono ?_
                      rintro e Y12 ⟨v5, rfl, ho5, hb5⟩
                      obtain ⟨q12, d12, rfl, hc12⟩ := ho5.slice
                      have HC12 := hid hc12; have HI4 := hid (HI4.out.below hb5)
                      clear hc12 ho5 hszp
                      refine hK.out _ _ (⟨hS.1.step hb5, hS.2.below hb5⟩) (fun hS => ?_)
                      clear hK K
                      try simp only [List.setIfInBounds_toArray, List.set_cons_zero, List.set_cons_succ]
                      refine wpAnyH_ready (rs := [13]) (by kernel_rfl) (by simp) ?_
                      refine AllReadyH.cons (o := _) rfl (fun K hK => ?_) AllReadyH.nil
                      go_simp
                      have hFo := Foreign_any r cc p4 n c4 l seed stp draws q12 C'.length d12 C' _ HI4.out (by have := HN.out; omega) HC12.out (by have := HCL.out; omega)
                      rw [HFV3.out.1, HFV3.out.2] at hFo
                      refine hFo.mono ?_
                      clear hFo
                      rintro e Y13 ⟨v6, rfl, ho6, hb6⟩
                      obtain ⟨py, cy, rfl, hiy⟩ := ho6.slice
                      have HIY := hid hiy
                      clear ho6 hiy
                      refine hK.out _ _ (⟨hS.1.step hb6, hS.2.below hb6⟩) (fun hS => ?_)
                      clear hK K
                      try simp only [List.setIfInBounds_toArray, List.set_cons_zero, List.set_cons_succ]
                      refine wpAnyH_take (i := 14) (v := ?_) rfl (by kernel_rfl) (by kernel_rfl) (by kernel_rfl) (fun _ _ _ h => h) (Or.inl ⟨by rfl, fun V hV => ?_⟩) (by assumption) ?_
                      rotate_left
                      · go_simp
                        try with_reducible rfl
                      try simp only [Act.put, List.getElem_toArray, List.getElem_cons_zero, List.getElem_cons_succ, List.setIfInBounds_toArray, List.set_cons_zero, List.set_cons_succ]
                      refine wpAnyH_take (i := 15) (v := ?_) rfl (by kernel_rfl) (by kernel_rfl) (by kernel_rfl) (fun _ _ _ h => h) (Or.inl ⟨by rfl, fun V hV => ?_⟩) (by assumption) ?_
                      rotate_left
                      · go_simp
                        try with_reducible rfl
                      try simp only [Act.put, List.getElem_toArray, List.getElem_cons_zero, List.getElem_cons_succ, List.setIfInBounds_toArray, List.set_cons_zero, List.set_cons_succ]
                      refine wpAnyH_take (i := 16) (v := ?_) rfl (by kernel_rfl) (by kernel_rfl) (by kernel_rfl) (fun _ _ _ h => h) (Or.inl ⟨by rfl, fun V hV => ?_⟩) (by assumption) ?_
                      rotate_left
                      · go_simp
                        try with_reducible rfl
                      try simp only [Act.put, List.getElem_toArray, List.getElem_cons_zero, List.getElem_cons_succ, List.setIfInBounds_toArray, List.set_cons_zero, List.set_cons_succ]
                      refine wpAnyH_take (i := 17) (v := ?_) rfl (by kernel_rfl) (by kernel_rfl) (by kernel_rfl) (fun _ _ _ h => h) (Or.inl ⟨by rfl, fun V hV => ?_⟩) (by assumption) ?_
                      rotate_left
                      · go_simp
                        try with_reducible rfl
                      try simp only [Act.put, List.getElem_toArray, List.getElem_cons_zero, List.getElem_cons_succ, List.setIfInBounds_toArray, List.set_cons_zero, List.set_cons_succ]
                      refine wpAnyH_take (i := 18) (v := ?_) rfl (by kernel_rfl) (by kernel_rfl) (by kernel_rfl) (fun _ _ _ h => h) (Or.inl ⟨by rfl, fun V hV => ?_⟩) (by assumption) ?_
                      rotate_left
                      · go_simp
                        try with_reducible rfl
                      try simp only [Act.put, List.getElem_toArray, List.getElem_cons_zero, List.getElem_cons_succ, List.setIfInBounds_toArray, List.set_cons_zero, List.set_cons_succ]
                      refine wpAnyH_done (by kernel_rfl) ?_ _
                      have HSZ := hid hS.1
                      clear hS
                      go_wp2
                      go_meet
                      case rel => exact ⟨py, _, rfl, rfl, HIY.out, HSZ.out⟩
                    refine AllReadyH.cons (o := _) rfl (fun K hK => ?_) AllReadyH.nil
                    have hszp : M ≤ Y3.heap.size := by rw [← HMM.out]; exact hBN.size
                    obtain ⟨Y10, hY10⟩ : ∃ V, (Y3).alloc (.cells #[.int .i64 C0.place, .int .i64 C0.lo, .int .i64 C0.hi, .bool C0.late] 59) = V := ⟨_, rfl⟩
                    have hb : Below (Y3).heap.size (Y3) Y10 := by rw [← hY10]; exact (Below.refl _ _).alloc (Nat.le_refl _) _
                    replace hBN := hBN.trans (hb.mono hszp)
                    have HI4 := hid (HI4.out.below hb)
                    have o10 : OwnRef Y10 M (.slice (some ⟨Y3.heap.size, 0, none⟩) 1 1) [C0] := by rw [← hY10]; exact (ownRef_one _ C0).base hszp
                    go_simp
                    clear hszp
                    refine hK.out _ _ (⟨hS.1.step hb, hS.2.below hb⟩) (fun hS => ?_)
                    clear hK K
                    try simp only [List.setIfInBounds_toArray, List.set_cons_zero, List.set_cons_succ]
                    refine wpAnyH_ready (rs := [4]) (by kernel_rfl) (by simp) ?_
                    refine AllReadyH.cons (o := _) rfl (fun K hK => ?_) AllReadyH.nil
                    have hszp : M ≤ Y10.heap.size := by rw [← HMM.out]; exact hBN.size
                    have F41 : Hid (∀ a, p4 = some a → a.block ≠ Y10.heap.size) := by
                      intro a ha
                      obtain ⟨b, o, e, hlt, _⟩ := HI4.out.at (i := 0) (by have := HN.out; omega)
                      rw [ha] at e
                      cases e
                      exact Nat.ne_of_lt hlt
                    have HNE : Hid (Y3.heap.size ≠ Y10.heap.size) := Nat.ne_of_lt (World.ownsRow.lt o10 _ rfl).2
                    obtain ⟨Y4, hY4⟩ : ∃ V, (Y10).alloc (.cells #[] 59) = V := ⟨_, rfl⟩
                    have hb : Below (Y10).heap.size (Y10) Y4 := by rw [← hY4]; exact (Below.refl _ _).alloc (Nat.le_refl _) _
                    replace hBN := hBN.trans (hb.mono hszp)
                    have HI4 := hid (HI4.out.below hb)
                    replace o10 := o10.below hb
                    have o4 : OwnRef Y4 M (.slice (some ⟨Y10.heap.size, 0, none⟩) 0 0) [] := by rw [← hY4]; exact ownRef_nil _ hszp
                    go_simp
                    clear hszp
                    refine hK.out _ _ (⟨hS.1.step hb, hS.2.below hb⟩) (fun hS => ?_)
                    clear hK K
                    try simp only [List.setIfInBounds_toArray, List.set_cons_zero, List.set_cons_succ]
                    refine wpAnyH_ready (rs := [6]) (by kernel_rfl) (by simp) ?_
                    refine AllReadyH.cons (o := _) rfl (fun K hK => ?_) AllReadyH.nil
                    have hszp : M ≤ Y4.heap.size := by rw [← HMM.out]; exact hBN.size
                    refine step_append_ref1 (by rfl) (.tmp 138) (.tmp 139) (by rfl) M _ (some ⟨bq, oq, none⟩) C.length d5 C o4 (by rfl) (by rfl) hS.2 HC5.out.1 (by have := HC5.out; omega) hszp ?_
                    intro g6 c6 Y6 o6 hb hk hg6
                    have F61 : Hid (∀ a, p4 = some a → a.block ≠ g6) := by
                      intro a ha
                      obtain ⟨b, o, e, hlt, _⟩ := HI4.out.at (i := 0) (by have := HN.out; omega)
                      have h4 := F41.out a ha
                      rw [ha] at e
                      cases e
                      rcases hg6 with e1 | e1
                      · have e2 : Y10.heap.size = g6 := (by simpa [Value.ownBlock] using e1)
                        rw [← e2]; exact h4
                      · rw [e1]; exact Nat.ne_of_lt hlt
                    have HI4 := hid (HI4.out.kept (fun a ha _ hlt => hk _ hlt (by intro e; have e2 : a.block = Y10.heap.size := (by simpa [Value.ownBlock] using e); exact F41.out a ha e2)))
                    replace hBN := hBN.trans hb
                    replace o10 := (show OwnRef Y6 M _ [C0] from row_block o10 (fun u hu => hk u (World.ownsRow.lt o10 u hu).2 (by intro e; have e1 : Y3.heap.size = u := (by simpa [Value.ownBlock] using hu); have e2 : u = Y10.heap.size := (by simpa [Value.ownBlock] using e); have e3 := HNE.out; omega)))
                    clear o4 hszp hg6
                    refine hK.out _ _ (⟨hS.1.far HLW.out HCW.out hb HM2.out, hS.2.far HBQ.out hb⟩) (fun hS => ?_)
                    clear hK K
                    try simp only [Act.put, List.getElem_toArray, List.getElem_cons_zero, List.getElem_cons_succ, List.setIfInBounds_toArray, List.set_cons_zero, List.set_cons_succ]
                    refine wpAnyH_ready (rs := [11]) (by kernel_rfl) (by simp) ?_
                    refine AllReadyH.cons (o := _) rfl (fun K hK => ?_) AllReadyH.nil
                    have hszp : M ≤ Y6.heap.size := by rw [← HMM.out]; exact hBN.size
                    have hsrc : CntsAt Y6 (some ⟨Y3.heap.size, 0, none⟩) 1 [C0] := by
                      obtain ⟨p7, c9, e7, h7⟩ := o10.slice
                      cases e7
                      exact h7
                    refine step_append_ref (by rfl) (.tmp 140) (.tmp 144) (by rfl) M _ C (some ⟨Y3.heap.size, 0, none⟩) 1 1 [C0] o6 (by rfl) (by rfl) hsrc (by have := HC5.out; omega) (by decide) hszp ?_
                    intro v11 Y11 o11 hb hk
                    have HI4 := hid (HI4.out.kept (fun a ha _ hlt => hk _ hlt (by intro e; have e2 : a.block = g6 := (by simpa [Value.ownBlock] using e); exact F61.out a ha e2)))
                    replace hBN := hBN.trans hb
                    rw [HCE.out] at o11
                    obtain ⟨q11, d11, rfl, hc11⟩ := o11.slice
                    have HC11 := hid hc11
                    clear o10 o6 o11 hc11 hsrc hszp
                    refine hK.out _ _ (⟨hS.1.far HLW.out HCW.out hb HM2.out, hS.2.far HBQ.out hb⟩) (fun hS => ?_)
                    clear hK K
                    try simp only [Act.put, List.getElem_toArray, List.getElem_cons_zero, List.getElem_cons_succ, List.setIfInBounds_toArray, List.set_cons_zero, List.set_cons_succ]
                    refine wpAnyH_ready (rs := [12]) (by kernel_rfl) (by simp) ?_
                    refine AllReadyH.cons (o := _) rfl (fun K hK => ?_) AllReadyH.nil
                    go_simp
                    have hszp : M ≤ Y11.heap.size := by rw [← HMM.out]; exact hBN.size
                    refine (countsX_any q11 C'.length d11 C' _ HC11.out (by have := HCL.out; omega)).mono ?_
                    rintro e Y12 ⟨v5, rfl, ho5, hb5⟩
                    obtain ⟨q12, d12, rfl, hc12⟩ := ho5.slice
                    have HC12 := hid hc12; have HI4 := hid (HI4.out.below hb5)
                    clear hc12 ho5 hszp
                    refine hK.out _ _ (⟨hS.1.step hb5, hS.2.below hb5⟩) (fun hS => ?_)
                    clear hK K
                    try simp only [List.setIfInBounds_toArray, List.set_cons_zero, List.set_cons_succ]
                    refine wpAnyH_ready (rs := [13]) (by kernel_rfl) (by simp) ?_
                    refine AllReadyH.cons (o := _) rfl (fun K hK => ?_) AllReadyH.nil
                    go_simp
                    have hFo := Foreign_any r cc p4 n c4 l seed stp draws q12 C'.length d12 C' _ HI4.out (by have := HN.out; omega) HC12.out (by have := HCL.out; omega)
                    rw [HFV3.out.1, HFV3.out.2] at hFo
                    refine hFo.mono ?_
                    clear hFo
                    rintro e Y13 ⟨v6, rfl, ho6, hb6⟩
                    obtain ⟨py, cy, rfl, hiy⟩ := ho6.slice
                    have HIY := hid hiy
                    clear ho6 hiy
                    refine hK.out _ _ (⟨hS.1.step hb6, hS.2.below hb6⟩) (fun hS => ?_)
                    clear hK K
                    try simp only [List.setIfInBounds_toArray, List.set_cons_zero, List.set_cons_succ]
                    refine wpAnyH_take (i := 14) (v := ?_) rfl (by kernel_rfl) (by kernel_rfl) (by kernel_rfl) (fun _ _ _ h => h) (Or.inl ⟨by rfl, fun V hV => ?_⟩) (by assumption) ?_
                    rotate_left
                    · go_simp
                      try with_reducible rfl
                    try simp only [Act.put, List.getElem_toArray, List.getElem_cons_zero, List.getElem_cons_succ, List.setIfInBounds_toArray, List.set_cons_zero, List.set_cons_succ]
                    refine wpAnyH_take (i := 15) (v := ?_) rfl (by kernel_rfl) (by kernel_rfl) (by kernel_rfl) (fun _ _ _ h => h) (Or.inl ⟨by rfl, fun V hV => ?_⟩) (by assumption) ?_
                    rotate_left
                    · go_simp
                      try with_reducible rfl
                    try simp only [Act.put, List.getElem_toArray, List.getElem_cons_zero, List.getElem_cons_succ, List.setIfInBounds_toArray, List.set_cons_zero, List.set_cons_succ]
                    refine wpAnyH_take (i := 16) (v := ?_) rfl (by kernel_rfl) (by kernel_rfl) (by kernel_rfl) (fun _ _ _ h => h) (Or.inl ⟨by rfl, fun V hV => ?_⟩) (by assumption) ?_
                    rotate_left
                    · go_simp
                      try with_reducible rfl
                    try simp only [Act.put, List.getElem_toArray, List.getElem_cons_zero, List.getElem_cons_succ, List.setIfInBounds_toArray, List.set_cons_zero, List.set_cons_succ]
                    refine wpAnyH_take (i := 17) (v := ?_) rfl (by kernel_rfl) (by kernel_rfl) (by kernel_rfl) (fun _ _ _ h => h) (Or.inl ⟨by rfl, fun V hV => ?_⟩) (by assumption) ?_
                    rotate_left
                    · go_simp
                      try with_reducible rfl
                    try simp only [Act.put, List.getElem_toArray, List.getElem_cons_zero, List.getElem_cons_succ, List.setIfInBounds_toArray, List.set_cons_zero, List.set_cons_succ]
                    refine wpAnyH_take (i := 18) (v := ?_) rfl (by kernel_rfl) (by kernel_rfl) (by kernel_rfl) (fun _ _ _ h => h) (Or.inl ⟨by rfl, fun V hV => ?_⟩) (by assumption) ?_
                    rotate_left
                    · go_simp
                      try with_reducible rfl
                    try simp only [Act.put, List.getElem_toArray, List.getElem_cons_zero, List.getElem_cons_succ, List.setIfInBounds_toArray, List.set_cons_zero, List.set_cons_succ]
                    refine wpAnyH_done (by kernel_rfl) ?_ _
                    have HSZ := hid hS.1
                    clear hS
                    go_wp2
                    go_meet
                    case rel => exact ⟨py, _, rfl, rfl, HIY.out, HSZ.out⟩
                  refine AllReadyH.cons (o := _) rfl (fun K hK => ?_) ?_
                  · skip
                    have hszp : M ≤ Y1.heap.size := by rw [← HMM.out]; exact hBN.size
                    have F41 : Hid (∀ a, p4 = some a → a.block ≠ Y1.heap.size) := by
                      intro a ha
                      obtain ⟨b, o, e, hlt, _⟩ := HI4.out.at (i := 0) (by have := HN.out; omega)
                      rw [ha] at e
                      cases e
                      exact Nat.ne_of_lt hlt
                    obtain ⟨Y4, hY4⟩ : ∃ V, (Y1).alloc (.cells #[] 59) = V := ⟨_, rfl⟩
                    have hb : Below (Y1).heap.size (Y1) Y4 := by rw [← hY4]; exact (Below.refl _ _).alloc (Nat.le_refl _) _
                    replace hBN := hBN.trans (hb.mono hszp)
                    have HI4 := hid (HI4.out.below hb)
                    have o4 : OwnRef Y4 M (.slice (some ⟨Y1.heap.size, 0, none⟩) 0 0) [] := by rw [← hY4]; exact ownRef_nil _ hszp
                    go_simp
                    clear hszp
                    refine hK.out _ _ (⟨hS.1.step hb, hS.2.below hb⟩) (fun hS => ?_)
                    clear hK K
                    try simp only [List.setIfInBounds_toArray, List.set_cons_zero, List.set_cons_succ]
                    refine wpAnyH_ready (rs := [3, 10]) (by kernel_rfl) (by simp) ?_
                    refine AllReadyH.cons (o := _) rfl (fun K hK => ?_) ?_
                    · skip
                      go_simp
                      have hszp : M ≤ Y4.heap.size := by rw [← HMM.out]; exact hBN.size
                      refine (lotX_any seed stp draws _).mono ?_
                      rintro e Y3 ⟨rfl, hb3⟩
                      replace hBN := hBN.trans (hb3.mono hszp)
                      have HI4 := hid (HI4.out.below hb3)
                      replace o4 := o4.below hb3
                      clear hszp
                      refine hK.out _ _ (⟨hS.1.step hb3, hS.2.below hb3⟩) (fun hS => ?_)
                      clear hK K
                      try simp only [List.setIfInBounds_toArray, List.set_cons_zero, List.set_cons_succ]
                      refine wpAnyH_ready (rs := [6, 10]) (by kernel_rfl) (by simp) ?_
                      refine AllReadyH.cons (o := _) rfl (fun K hK => ?_) ?_
                      · skip
                        have hszp : M ≤ Y3.heap.size := by rw [← HMM.out]; exact hBN.size
                        refine step_append_ref1 (by rfl) (.tmp 138) (.tmp 139) (by rfl) M _ (some ⟨bq, oq, none⟩) C.length d5 C o4 (by rfl) (by rfl) hS.2 HC5.out.1 (by have := HC5.out; omega) hszp ?_
                        intro g6 c6 Y6 o6 hb hk hg6
                        have F61 : Hid (∀ a, p4 = some a → a.block ≠ g6) := by
                          intro a ha
                          obtain ⟨b, o, e, hlt, _⟩ := HI4.out.at (i := 0) (by have := HN.out; omega)
                          have h4 := F41.out a ha
                          rw [ha] at e
                          cases e
                          rcases hg6 with e1 | e1
                          · have e2 : Y1.heap.size = g6 := (by simpa [Value.ownBlock] using e1)
                            rw [← e2]; exact h4
                          · rw [e1]; exact Nat.ne_of_lt hlt
                        have HI4 := hid (HI4.out.kept (fun a ha _ hlt => hk _ hlt (by intro e; have e2 : a.block = Y1.heap.size := (by simpa [Value.ownBlock] using e); exact F41.out a ha e2)))
                        replace hBN := hBN.trans hb
                        clear o4 hszp hg6
                        refine hK.out _ _ (⟨hS.1.far HLW.out HCW.out hb HM2.out, hS.2.far HBQ.out hb⟩) (fun hS => ?_)
                        clear hK K
                        try simp only [Act.put, List.getElem_toArray, List.getElem_cons_zero, List.getElem_cons_succ, List.setIfInBounds_toArray, List.set_cons_zero, List.set_cons_succ]
                        refine wpAnyH_ready (rs := [10]) (by kernel_rfl) (by simp) ?_
                        refine AllReadyH.cons (o := _) rfl (fun K hK => ?_) AllReadyH.nil
                        have hszp : M ≤ Y6.heap.size := by rw [← HMM.out]; exact hBN.size
                        obtain ⟨Y10, hY10⟩ : ∃ V, (Y6).alloc (.cells #[.int .i64 C0.place, .int .i64 C0.lo, .int .i64 C0.hi, .bool C0.late] 59) = V := ⟨_, rfl⟩
                        have hb : Below (Y6).heap.size (Y6) Y10 := by rw [← hY10]; exact (Below.refl _ _).alloc (Nat.le_refl _) _
                        replace hBN := hBN.trans (hb.mono hszp)
                        have HI4 := hid (HI4.out.below hb)
                        replace o6 := o6.below hb
                        have o10 : OwnRef Y10 M (.slice (some ⟨Y6.heap.size, 0, none⟩) 1 1) [C0] := by rw [← hY10]; exact (ownRef_one _ C0).base hszp
                        go_simp
                        clear hszp
                        refine hK.out _ _ (⟨hS.1.step hb, hS.2.below hb⟩) (fun hS => ?_)
                        clear hK K
                        try simp only [List.setIfInBounds_toArray, List.set_cons_zero, List.set_cons_succ]
                        refine wpAnyH_ready (rs := [11]) (by kernel_rfl) (by simp) ?_
                        refine AllReadyH.cons (o := _) rfl (fun K hK => ?_) AllReadyH.nil
                        have hszp : M ≤ Y10.heap.size := by rw [← HMM.out]; exact hBN.size
                        have hsrc : CntsAt Y10 (some ⟨Y6.heap.size, 0, none⟩) 1 [C0] := by
                          obtain ⟨p7, c9, e7, h7⟩ := o10.slice
                          cases e7
                          exact h7
                        refine step_append_ref (by rfl) (.tmp 140) (.tmp 144) (by rfl) M _ C (some ⟨Y6.heap.size, 0, none⟩) 1 1 [C0] o6 (by rfl) (by rfl) hsrc (by have := HC5.out; omega) (by decide) hszp ?_
                        intro v11 Y11 o11 hb hk
                        have HI4 := hid (HI4.out.kept (fun a ha _ hlt => hk _ hlt (by intro e; have e2 : a.block = g6 := (by simpa [Value.ownBlock] using e); exact F61.out a ha e2)))
                        replace hBN := hBN.trans hb
                        rw [HCE.out] at o11
                        obtain ⟨q11, d11, rfl, hc11⟩ := o11.slice
                        have HC11 := hid hc11
                        clear o10 o6 o11 hc11 hsrc hszp
                        refine hK.out _ _ (⟨hS.1.far HLW.out HCW.out hb HM2.out, hS.2.far HBQ.out hb⟩) (fun hS => ?_)
                        clear hK K
                        try simp only [Act.put, List.getElem_toArray, List.getElem_cons_zero, List.getElem_cons_succ, List.setIfInBounds_toArray, List.set_cons_zero, List.set_cons_succ]
                        refine wpAnyH_ready (rs := [12]) (by kernel_rfl) (by simp) ?_
                        refine AllReadyH.cons (o := _) rfl (fun K hK => ?_) AllReadyH.nil
                        go_simp
                        have hszp : M ≤ Y11.heap.size := by rw [← HMM.out]; exact hBN.size
                        refine (countsX_any q11 C'.length d11 C' _ HC11.out (by have := HCL.out; omega)).mono ?_
                        rintro e Y12 ⟨v5, rfl, ho5, hb5⟩
                        obtain ⟨q12, d12, rfl, hc12⟩ := ho5.slice
                        have HC12 := hid hc12; have HI4 := hid (HI4.out.below hb5)
                        clear hc12 ho5 hszp
                        refine hK.out _ _ (⟨hS.1.step hb5, hS.2.below hb5⟩) (fun hS => ?_)
                        clear hK K
                        try simp only [List.setIfInBounds_toArray, List.set_cons_zero, List.set_cons_succ]
                        refine wpAnyH_ready (rs := [13]) (by kernel_rfl) (by simp) ?_
                        refine AllReadyH.cons (o := _) rfl (fun K hK => ?_) AllReadyH.nil
                        go_simp
                        have hFo := Foreign_any r cc p4 n c4 l seed stp draws q12 C'.length d12 C' _ HI4.out (by have := HN.out; omega) HC12.out (by have := HCL.out; omega)
                        rw [HFV3.out.1, HFV3.out.2] at hFo
                        refine hFo.mono ?_
                        clear hFo
                        rintro e Y13 ⟨v6, rfl, ho6, hb6⟩
                        obtain ⟨py, cy, rfl, hiy⟩ := ho6.slice
                        have HIY := hid hiy
                        clear ho6 hiy
                        refine hK.out _ _ (⟨hS.1.step hb6, hS.2.below hb6⟩) (fun hS => ?_)
                        clear hK K
                        try simp only [List.setIfInBounds_toArray, List.set_cons_zero, List.set_cons_succ]
                        refine wpAnyH_take (i := 14) (v := ?_) rfl (by kernel_rfl) (by kernel_rfl) (by kernel_rfl) (fun _ _ _ h => h) (Or.inl ⟨by rfl, fun V hV => ?_⟩) (by assumption) ?_
                        rotate_left
                        · go_simp
                          try with_reducible rfl
                        try simp only [Act.put, List.getElem_toArray, List.getElem_cons_zero, List.getElem_cons_succ, List.setIfInBounds_toArray, List.set_cons_zero, List.set_cons_succ]
                        refine wpAnyH_take (i := 15) (v := ?_) rfl (by kernel_rfl) (by kernel_rfl) (by kernel_rfl) (fun _ _ _ h => h) (Or.inl ⟨by rfl, fun V hV => ?_⟩) (by assumption) ?_
                        rotate_left
                        · go_simp
                          try with_reducible rfl
                        try simp only [Act.put, List.getElem_toArray, List.getElem_cons_zero, List.getElem_cons_succ, List.setIfInBounds_toArray, List.set_cons_zero, List.set_cons_succ]
                        refine wpAnyH_take (i := 16) (v := ?_) rfl (by kernel_rfl) (by kernel_rfl) (by kernel_rfl) (fun _ _ _ h => h) (Or.inl ⟨by rfl, fun V hV => ?_⟩) (by assumption) ?_
                        rotate_left
                        · go_simp
                          try with_reducible rfl
                        try simp only [Act.put, List.getElem_toArray, List.getElem_cons_zero, List.getElem_cons_succ, List.setIfInBounds_toArray, List.set_cons_zero, List.set_cons_succ]
                        refine wpAnyH_take (i := 17) (v := ?_) rfl (by kernel_rfl) (by kernel_rfl) (by kernel_rfl) (fun _ _ _ h => h) (Or.inl ⟨by rfl, fun V hV => ?_⟩) (by assumption) ?_
                        rotate_left
                        · go_simp
                          try with_reducible rfl
                        try simp only [Act.put, List.getElem_toArray, List.getElem_cons_zero, List.getElem_cons_succ, List.setIfInBounds_toArray, List.set_cons_zero, List.set_cons_succ]
                        refine wpAnyH_take (i := 18) (v := ?_) rfl (by kernel_rfl) (by kernel_rfl) (by kernel_rfl) (fun _ _ _ h => h) (Or.inl ⟨by rfl, fun V hV => ?_⟩) (by assumption) ?_
                        rotate_left
                        · go_simp
                          try with_reducible rfl
                        try simp only [Act.put, List.getElem_toArray, List.getElem_cons_zero, List.getElem_cons_succ, List.setIfInBounds_toArray, List.set_cons_zero, List.set_cons_succ]
                        refine wpAnyH_done (by kernel_rfl) ?_ _
                        have HSZ := hid hS.1
                        clear hS
                        go_wp2
                        go_meet
                        case rel => exact ⟨py, _, rfl, rfl, HIY.out, HSZ.out⟩
                      refine AllReadyH.cons (o := _) rfl (fun K hK => ?_) AllReadyH.nil
                      have hszp : M ≤ Y3.heap.size := by rw [← HMM.out]; exact hBN.size
                      have HNE : Hid (Y3.heap.size ≠ Y1.heap.size) := Nat.ne_of_gt (World.ownsRow.lt o4 _ rfl).2
                      obtain ⟨Y10, hY10⟩ : ∃ V, (Y3).alloc (.cells #[.int .i64 C0.place, .int .i64 C0.lo, .int .i64 C0.hi, .bool C0.late] 59) = V := ⟨_, rfl⟩
                      have hb : Below (Y3).heap.size (Y3) Y10 := by rw [← hY10]; exact (Below.refl _ _).alloc (Nat.le_refl _) _
                      replace hBN := hBN.trans (hb.mono hszp)
                      have HI4 := hid (HI4.out.below hb)
                      replace o4 := o4.below hb
                      have o10 : OwnRef Y10 M (.slice (some ⟨Y3.heap.size, 0, none⟩) 1 1) [C0] := by rw [← hY10]; exact (ownRef_one _ C0).base hszp
                      go_simp
                      clear hszp
                      refine hK.out _ _ (⟨hS.1.step hb, hS.2.below hb⟩) (fun hS => ?_)
                      clear hK K
                      try simp only [List.setIfInBounds_toArray, List.set_cons_zero, List.set_cons_succ]
                      refine wpAnyH_ready (rs := [6]) (by kernel_rfl) (by simp) ?_
                      refine AllReadyH.cons (o := _) rfl (fun K hK => ?_) AllReadyH.nil
                      have hszp : M ≤ Y10.heap.size := by rw [← HMM.out]; exact hBN.size
                      refine step_append_ref1 (by rfl) (.tmp 138) (.tmp 139) (by rfl) M _ (some ⟨bq, oq, none⟩) C.length d5 C o4 (by rfl) (by rfl) hS.2 HC5.out.1 (by have := HC5.out; omega) hszp ?_
                      intro g6 c6 Y6 o6 hb hk hg6
                      have F61 : Hid (∀ a, p4 = some a → a.block ≠ g6) := by
                        intro a ha
                        obtain ⟨b, o, e, hlt, _⟩ := HI4.out.at (i := 0) (by have := HN.out; omega)
                        have h4 := F41.out a ha
                        rw [ha] at e
                        cases e
                        rcases hg6 with e1 | e1
                        · have e2 : Y1.heap.size = g6 := (by simpa [Value.ownBlock] using e1)
                          rw [← e2]; exact h4
                        · rw [e1]; exact Nat.ne_of_lt hlt
                      have HI4 := hid (HI4.out.kept (fun a ha _ hlt => hk _ hlt (by intro e; have e2 : a.block = Y1.heap.size := (by simpa [Value.ownBlock] using e); exact F41.out a ha e2)))
                      replace hBN := hBN.trans hb
                      replace o10 := (show OwnRef Y6 M _ [C0] from row_block o10 (fun u hu => hk u (World.ownsRow.lt o10 u hu).2 (by intro e; have e1 : Y3.heap.size = u := (by simpa [Value.ownBlock] using hu); have e2 : u = Y1.heap.size := (by simpa [Value.ownBlock] using e); have e3 := HNE.out; omega)))
                      clear o4 hszp hg6
                      refine hK.out _ _ (⟨hS.1.far HLW.out HCW.out hb HM2.out, hS.2.far HBQ.out hb⟩) (fun hS => ?_)
                      clear hK K
                      try simp only [Act.put, List.getElem_toArray, List.getElem_cons_zero, List.getElem_cons_succ, List.setIfInBounds_toArray, List.set_cons_zero, List.set_cons_succ]
                      refine wpAnyH_ready (rs := [11]) (by kernel_rfl) (by simp) ?_
                      refine AllReadyH.cons (o := _) rfl (fun K hK => ?_) AllReadyH.nil
                      have hszp : M ≤ Y6.heap.size := by rw [← HMM.out]; exact hBN.size
                      have hsrc : CntsAt Y6 (some ⟨Y3.heap.size, 0, none⟩) 1 [C0] := by
                        obtain ⟨p7, c9, e7, h7⟩ := o10.slice
                        cases e7
                        exact h7
                      refine step_append_ref (by rfl) (.tmp 140) (.tmp 144) (by rfl) M _ C (some ⟨Y3.heap.size, 0, none⟩) 1 1 [C0] o6 (by rfl) (by rfl) hsrc (by have := HC5.out; omega) (by decide) hszp ?_
                      intro v11 Y11 o11 hb hk
                      have HI4 := hid (HI4.out.kept (fun a ha _ hlt => hk _ hlt (by intro e; have e2 : a.block = g6 := (by simpa [Value.ownBlock] using e); exact F61.out a ha e2)))
                      replace hBN := hBN.trans hb
                      rw [HCE.out] at o11
                      obtain ⟨q11, d11, rfl, hc11⟩ := o11.slice
                      have HC11 := hid hc11
                      clear o10 o6 o11 hc11 hsrc hszp
                      refine hK.out _ _ (⟨hS.1.far HLW.out HCW.out hb HM2.out, hS.2.far HBQ.out hb⟩) (fun hS => ?_)
                      clear hK K
                      try simp only [Act.put, List.getElem_toArray, List.getElem_cons_zero, List.getElem_cons_succ, List.setIfInBounds_toArray, List.set_cons_zero, List.set_cons_succ]
                      refine wpAnyH_ready (rs := [12]) (by kernel_rfl) (by simp) ?_
                      refine AllReadyH.cons (o := _) rfl (fun K hK => ?_) AllReadyH.nil
                      go_simp
                      have hszp : M ≤ Y11.heap.size := by rw [← HMM.out]; exact hBN.size
                      refine (countsX_any q11 C'.length d11 C' _ HC11.out (by have := HCL.out; omega)).mono ?_
                      rintro e Y12 ⟨v5, rfl, ho5, hb5⟩
                      obtain ⟨q12, d12, rfl, hc12⟩ := ho5.slice
                      have HC12 := hid hc12; have HI4 := hid (HI4.out.below hb5)
                      clear hc12 ho5 hszp
                      refine hK.out _ _ (⟨hS.1.step hb5, hS.2.below hb5⟩) (fun hS => ?_)
                      clear hK K
                      try simp only [List.setIfInBounds_toArray, List.set_cons_zero, List.set_cons_succ]
                      refine wpAnyH_ready (rs := [13]) (by kernel_rfl) (by simp) ?_
                      refine AllReadyH.cons (o := _) rfl (fun K hK => ?_) AllReadyH.nil
                      go_simp
                      have hFo := Foreign_any r cc p4 n c4 l seed stp draws q12 C'.length d12 C' _ HI4.out (by have := HN.out; omega) HC12.out (by have := HCL.out; omega)
                      rw [HFV3.out.1, HFV3.out.2] at hFo
                      refine hFo.mono ?_
                      clear hFo
                      rintro e Y13 ⟨v6, rfl, ho6, hb6⟩
                      obtain ⟨py, cy, rfl, hiy⟩ := ho6.slice
                      have HIY := hid hiy
                      clear ho6 hiy
                      refine hK.out _ _ (⟨hS.1.step hb6, hS.2.below hb6⟩) (fun hS => ?_)
                      clear hK K
                      try simp only [List.setIfInBounds_toArray, List.set_cons_zero, List.set_cons_succ]
                      refine wpAnyH_take (i := 14) (v := ?_) rfl (by kernel_rfl) (by kernel_rfl) (by kernel_rfl) (fun _ _ _ h => h) (Or.inl ⟨by rfl, fun V hV => ?_⟩) (by assumption) ?_
                      rotate_left
                      · go_simp
                        try with_reducible rfl
                      try simp only [Act.put, List.getElem_toArray, List.getElem_cons_zero, List.getElem_cons_succ, List.setIfInBounds_toArray, List.set_cons_zero, List.set_cons_succ]
                      refine wpAnyH_take (i := 15) (v := ?_) rfl (by kernel_rfl) (by kernel_rfl) (by kernel_rfl) (fun _ _ _ h => h) (Or.inl ⟨by rfl, fun V hV => ?_⟩) (by assumption) ?_
                      rotate_left
                      · go_simp
                        try with_reducible rfl
                      try simp only [Act.put, List.getElem_toArray, List.getElem_cons_zero, List.getElem_cons_succ, List.setIfInBounds_toArray, List.set_cons_zero, List.set_cons_succ]
                      refine wpAnyH_take (i := 16) (v := ?_) rfl (by kernel_rfl) (by kernel_rfl) (by kernel_rfl) (fun _ _ _ h => h) (Or.inl ⟨by rfl, fun V hV => ?_⟩) (by assumption) ?_
                      rotate_left
                      · go_simp
                        try with_reducible rfl
                      try simp only [Act.put, List.getElem_toArray, List.getElem_cons_zero, List.getElem_cons_succ, List.setIfInBounds_toArray, List.set_cons_zero, List.set_cons_succ]
                      refine wpAnyH_take (i := 17) (v := ?_) rfl (by kernel_rfl) (by kernel_rfl) (by kernel_rfl) (fun _ _ _ h => h) (Or.inl ⟨by rfl, fun V hV => ?_⟩) (by assumption) ?_
                      rotate_left
                      · go_simp
                        try with_reducible rfl
                      try simp only [Act.put, List.getElem_toArray, List.getElem_cons_zero, List.getElem_cons_succ, List.setIfInBounds_toArray, List.set_cons_zero, List.set_cons_succ]
                      refine wpAnyH_take (i := 18) (v := ?_) rfl (by kernel_rfl) (by kernel_rfl) (by kernel_rfl) (fun _ _ _ h => h) (Or.inl ⟨by rfl, fun V hV => ?_⟩) (by assumption) ?_
                      rotate_left
                      · go_simp
                        try with_reducible rfl
                      try simp only [Act.put, List.getElem_toArray, List.getElem_cons_zero, List.getElem_cons_succ, List.setIfInBounds_toArray, List.set_cons_zero, List.set_cons_succ]
                      refine wpAnyH_done (by kernel_rfl) ?_ _
                      have HSZ := hid hS.1
                      clear hS
                      go_wp2
                      go_meet
                      case rel => exact ⟨py, _, rfl, rfl, HIY.out, HSZ.out⟩
                    refine AllReadyH.cons (o := _) rfl (fun K hK => ?_) AllReadyH.nil
                    have hszp : M ≤ Y4.heap.size := by rw [← HMM.out]; exact hBN.size
                    have HNE : Hid (Y4.heap.size ≠ Y1.heap.size) := Nat.ne_of_gt (World.ownsRow.lt o4 _ rfl).2
                    obtain ⟨Y10, hY10⟩ : ∃ V, (Y4).alloc (.cells #[.int .i64 C0.place, .int .i64 C0.lo, .int .i64 C0.hi, .bool C0.late] 59) = V := ⟨_, rfl⟩
                    have hb : Below (Y4).heap.size (Y4) Y10 := by rw [← hY10]; exact (Below.refl _ _).alloc (Nat.le_refl _) _
                    replace hBN := hBN.trans (hb.mono hszp)
                    have HI4 := hid (HI4.out.below hb)
                    replace o4 := o4.below hb
                    have o10 : OwnRef Y10 M (.slice (some ⟨Y4.heap.size, 0, none⟩) 1 1) [C0] := by rw [← hY10]; exact (ownRef_one _ C0).base hszp
                    go_simp
                    clear hszp
                    refine hK.out _ _ (⟨hS.1.step hb, hS.2.below hb⟩) (fun hS => ?_)
                    clear hK K
                    try simp only [List.setIfInBounds_toArray, List.set_cons_zero, List.set_cons_succ]
                    refine wpAnyH_ready (rs := [3]) (by kernel_rfl) (by simp) ?_
                    refine AllReadyH.cons (o := _) rfl (fun K hK => ?_) AllReadyH.nil
                    go_simp
                    have hszp : M ≤ Y10.heap.size := by rw [← HMM.out]; exact hBN.size
                    refine (lotX_any seed stp draws _).mono ?_
                    rintro e Y3 ⟨rfl, hb3⟩
                    replace hBN := hBN.trans (hb3.mono hszp)
                    have HI4 := hid (HI4.out.below hb3)
                    replace o4 := o4.below hb3
                    replace o10 := o10.below hb3
                    clear hszp
                    refine hK.out _ _ (⟨hS.1.step hb3, hS.2.below hb3⟩) (fun hS => ?_)
                    clear hK K
                    try simp only [List.setIfInBounds_toArray, List.set_cons_zero, List.set_cons_succ]
                    refine wpAnyH_ready (rs := [6]) (by kernel_rfl) (by simp) ?_
                    refine AllReadyH.cons (o := _) rfl (fun K hK => ?_) AllReadyH.nil
                    have hszp : M ≤ Y3.heap.size := by rw [← HMM.out]; exact hBN.size
                    refine step_append_ref1 (by rfl) (.tmp 138) (.tmp 139) (by rfl) M _ (some ⟨bq, oq, none⟩) C.length d5 C o4 (by rfl) (by rfl) hS.2 HC5.out.1 (by have := HC5.out; omega) hszp ?_
                    intro g6 c6 Y6 o6 hb hk hg6
                    have F61 : Hid (∀ a, p4 = some a → a.block ≠ g6) := by
                      intro a ha
                      obtain ⟨b, o, e, hlt, _⟩ := HI4.out.at (i := 0) (by have := HN.out; omega)
                      have h4 := F41.out a ha
                      rw [ha] at e
                      cases e
                      rcases hg6 with e1 | e1
                      · have e2 : Y1.heap.size = g6 := (by simpa [Value.ownBlock] using e1)
                        rw [← e2]; exact h4
                      · rw [e1]; exact Nat.ne_of_lt hlt
                    have HI4 := hid (HI4.out.kept (fun a ha _ hlt => hk _ hlt (by intro e; have e2 : a.block = Y1.heap.size := (by simpa [Value.ownBlock] using e); exact F41.out a ha e2)))
                    replace hBN := hBN.trans hb
                    replace o10 := (show OwnRef Y6 M _ [C0] from row_block o10 (fun u hu => hk u (World.ownsRow.lt o10 u hu).2 (by intro e; have e1 : Y4.heap.size = u := (by simpa [Value.ownBlock] using hu); have e2 : u = Y1.heap.size := (by simpa [Value.ownBlock] using e); have e3 := HNE.out; omega)))
                    clear o4 hszp hg6
                    refine hK.out _ _ (⟨hS.1.far HLW.out HCW.out hb HM2.out, hS.2.far HBQ.out hb⟩) (fun hS => ?_)
                    clear hK K
                    try simp only [Act.put, List.getElem_toArray, List.getElem_cons_zero, List.getElem_cons_succ, List.setIfInBounds_toArray, List.set_cons_zero, List.set_cons_succ]
                    refine wpAnyH_ready (rs := [11]) (by kernel_rfl) (by simp) ?_
                    refine AllReadyH.cons (o := _) rfl (fun K hK => ?_) AllReadyH.nil
                    have hszp : M ≤ Y6.heap.size := by rw [← HMM.out]; exact hBN.size
                    have hsrc : CntsAt Y6 (some ⟨Y4.heap.size, 0, none⟩) 1 [C0] := by
                      obtain ⟨p7, c9, e7, h7⟩ := o10.slice
                      cases e7
                      exact h7
                    refine step_append_ref (by rfl) (.tmp 140) (.tmp 144) (by rfl) M _ C (some ⟨Y4.heap.size, 0, none⟩) 1 1 [C0] o6 (by rfl) (by rfl) hsrc (by have := HC5.out; omega) (by decide) hszp ?_
                    intro v11 Y11 o11 hb hk
                    have HI4 := hid (HI4.out.kept (fun a ha _ hlt => hk _ hlt (by intro e; have e2 : a.block = g6 := (by simpa [Value.ownBlock] using e); exact F61.out a ha e2)))
                    replace hBN := hBN.trans hb
                    rw [HCE.out] at o11
                    obtain ⟨q11, d11, rfl, hc11⟩ := o11.slice
                    have HC11 := hid hc11
                    clear o10 o6 o11 hc11 hsrc hszp
                    refine hK.out _ _ (⟨hS.1.far HLW.out HCW.out hb HM2.out, hS.2.far HBQ.out hb⟩) (fun hS => ?_)
                    clear hK K
                    try simp only [Act.put, List.getElem_toArray, List.getElem_cons_zero, List.getElem_cons_succ, List.setIfInBounds_toArray, List.set_cons_zero, List.set_cons_succ]
                    refine wpAnyH_ready (rs := [12]) (by kernel_rfl) (by simp) ?_
                    refine AllReadyH.cons (o := _) rfl (fun K hK => ?_) AllReadyH.nil
                    go_simp
                    have hszp : M ≤ Y11.heap.size := by rw [← HMM.out]; exact hBN.size
                    refine (countsX_any q11 C'.length d11 C' _ HC11.out (by have := HCL.out; omega)).mono ?_
                    rintro e Y12 ⟨v5, rfl, ho5, hb5⟩
                    obtain ⟨q12, d12, rfl, hc12⟩ := ho5.slice
                    have HC12 := hid hc12; have HI4 := hid (HI4.out.below hb5)
                    clear hc12 ho5 hszp
                    refine hK.out _ _ (⟨hS.1.step hb5, hS.2.below hb5⟩) (fun hS => ?_)
                    clear hK K
                    try simp only [List.setIfInBounds_toArray, List.set_cons_zero, List.set_cons_succ]
                    refine wpAnyH_ready (rs := [13]) (by kernel_rfl) (by simp) ?_
                    refine AllReadyH.cons (o := _) rfl (fun K hK => ?_) AllReadyH.nil
                    go_simp
                    have hFo := Foreign_any r cc p4 n c4 l seed stp draws q12 C'.length d12 C' _ HI4.out (by have := HN.out; omega) HC12.out (by have := HCL.out; omega)
                    rw [HFV3.out.1, HFV3.out.2] at hFo
                    refine hFo.mono ?_
                    clear hFo
                    rintro e Y13 ⟨v6, rfl, ho6, hb6⟩
                    obtain ⟨py, cy, rfl, hiy⟩ := ho6.slice
                    have HIY := hid hiy
                    clear ho6 hiy
                    refine hK.out _ _ (⟨hS.1.step hb6, hS.2.below hb6⟩) (fun hS => ?_)
                    clear hK K
                    try simp only [List.setIfInBounds_toArray, List.set_cons_zero, List.set_cons_succ]
                    refine wpAnyH_take (i := 14) (v := ?_) rfl (by kernel_rfl) (by kernel_rfl) (by kernel_rfl) (fun _ _ _ h => h) (Or.inl ⟨by rfl, fun V hV => ?_⟩) (by assumption) ?_
                    rotate_left
                    · go_simp
                      try with_reducible rfl
                    try simp only [Act.put, List.getElem_toArray, List.getElem_cons_zero, List.getElem_cons_succ, List.setIfInBounds_toArray, List.set_cons_zero, List.set_cons_succ]
                    refine wpAnyH_take (i := 15) (v := ?_) rfl (by kernel_rfl) (by kernel_rfl) (by kernel_rfl) (fun _ _ _ h => h) (Or.inl ⟨by rfl, fun V hV => ?_⟩) (by assumption) ?_
                    rotate_left
                    · go_simp
                      try with_reducible rfl
                    try simp only [Act.put, List.getElem_toArray, List.getElem_cons_zero, List.getElem_cons_succ, List.setIfInBounds_toArray, List.set_cons_zero, List.set_cons_succ]
                    refine wpAnyH_take (i := 16) (v := ?_) rfl (by kernel_rfl) (by kernel_rfl) (by kernel_rfl) (fun _ _ _ h => h) (Or.inl ⟨by rfl, fun V hV => ?_⟩) (by assumption) ?_
                    rotate_left
                    · go_simp
                      try with_reducible rfl
                    try simp only [Act.put, List.getElem_toArray, List.getElem_cons_zero, List.getElem_cons_succ, List.setIfInBounds_toArray, List.set_cons_zero, List.set_cons_succ]
                    refine wpAnyH_take (i := 17) (v := ?_) rfl (by kernel_rfl) (by kernel_rfl) (by kernel_rfl) (fun _ _ _ h => h) (Or.inl ⟨by rfl, fun V hV => ?_⟩) (by assumption) ?_
                    rotate_left
                    · go_simp
                      try with_reducible rfl
                    try simp only [Act.put, List.getElem_toArray, List.getElem_cons_zero, List.getElem_cons_succ, List.setIfInBounds_toArray, List.set_cons_zero, List.set_cons_succ]
                    refine wpAnyH_take (i := 18) (v := ?_) rfl (by kernel_rfl) (by kernel_rfl) (by kernel_rfl) (fun _ _ _ h => h) (Or.inl ⟨by rfl, fun V hV => ?_⟩) (by assumption) ?_
                    rotate_left
                    · go_simp
                      try with_reducible rfl
                    try simp only [Act.put, List.getElem_toArray, List.getElem_cons_zero, List.getElem_cons_succ, List.setIfInBounds_toArray, List.set_cons_zero, List.set_cons_succ]
                    refine wpAnyH_done (by kernel_rfl) ?_ _
                    have HSZ := hid hS.1
                    clear hS
                    go_wp2
                    go_meet
                    case rel => exact ⟨py, _, rfl, rfl, HIY.out, HSZ.out⟩
                  refine AllReadyH.cons (o := _) rfl (fun K hK => ?_) AllReadyH.nil
                  have hszp : M ≤ Y1.heap.size := by rw [← HMM.out]; exact hBN.size
                  obtain ⟨Y10, hY10⟩ : ∃ V, (Y1).alloc (.cells #[.int .i64 C0.place, .int .i64 C0.lo, .int .i64 C0.hi, .bool C0.late] 59) = V := ⟨_, rfl⟩
                  have hb : Below (Y1).heap.size (Y1) Y10 := by rw [← hY10]; exact (Below.refl _ _).alloc (Nat.le_refl _) _
                  replace hBN := hBN.trans (hb.mono hszp)
                  have HI4 := hid (HI4.out.below hb)
                  have o10 : OwnRef Y10 M (.slice (some ⟨Y1.heap.size, 0, none⟩) 1 1) [C0] := by rw [← hY10]; exact (ownRef_one _ C0).base hszp
                  go_simp
                  clear hszp
                  refine hK.out _ _ (⟨hS.1.step hb, hS.2.below hb⟩) (fun hS => ?_)
                  clear hK K
                  try simp only [List.setIfInBounds_toArray, List.set_cons_zero, List.set_cons_succ]
                  refine wpAnyH_ready (rs := [3, 4]) (by kernel_rfl) (by simp) ?_
                  refine AllReadyH.cons (o := _) rfl (fun K hK => ?_) ?_
                  · skip
                    go_simp
                    have hszp : M ≤ Y10.heap.size := by rw [← HMM.out]; exact hBN.size
                    refine (lotX_any seed stp draws _).mono ?_
                    rintro e Y3 ⟨rfl, hb3⟩
                    replace hBN := hBN.trans (hb3.mono hszp)
                    have HI4 := hid (HI4.out.below hb3)
                    replace o10 := o10.below hb3
                    clear hszp
                    refine hK.out _ _ (⟨hS.1.step hb3, hS.2.below hb3⟩) (fun hS => ?_)
                    clear hK K
                    try simp only [List.setIfInBounds_toArray, List.set_cons_zero, List.set_cons_succ]
                    refine wpAnyH_ready (rs := [4]) (by kernel_rfl) (by simp) ?_
                    refine AllReadyH.cons (o := _) rfl (fun K hK => ?_) AllReadyH.nil
                    have hszp : M ≤ Y3.heap.size := by rw [← HMM.out]; exact hBN.size
                    have F41 : Hid (∀ a, p4 = some a → a.block ≠ Y3.heap.size) := by
                      intro a ha
                      obtain ⟨b, o, e, hlt, _⟩ := HI4.out.at (i := 0) (by have := HN.out; omega)
                      rw [ha] at e
                      cases e
                      exact Nat.ne_of_lt hlt
                    have HNE : Hid (Y1.heap.size ≠ Y3.heap.size) := Nat.ne_of_lt (World.ownsRow.lt o10 _ rfl).2
                    obtain ⟨Y4, hY4⟩ : ∃ V, (Y3).alloc (.cells #[] 59) = V := ⟨_, rfl⟩
                    have hb : Below (Y3).heap.size (Y3) Y4 := by rw [← hY4]; exact (Below.refl _ _).alloc (Nat.le_refl _) _
                    replace hBN := hBN.trans (hb.mono hszp)
                    have HI4 := hid (HI4.out.below hb)
                    replace o10 := o10.below hb
                    have o4 : OwnRef Y4 M (.slice (some ⟨Y3.heap.size, 0, none⟩) 0 0) [] := by rw [← hY4]; exact ownRef_nil _ hszp
                    go_simp
                    clear hszp
                    refine hK.out _ _ (⟨hS.1.step hb, hS.2.below hb⟩) (fun hS => ?_)
                    clear hK K
                    try simp only [List.setIfInBounds_toArray, List.set_cons_zero, List.set_cons_succ]
                    refine wpAnyH_ready (rs := [6]) (by kernel_rfl) (by simp) ?_
                    refine AllReadyH.cons (o := _) rfl (fun K hK => ?_) AllReadyH.nil
                    have hszp : M ≤ Y4.heap.size := by rw [← HMM.out]; exact hBN.size
                    refine step_append_ref1 (by rfl) (.tmp 138) (.tmp 139) (by rfl) M _ (some ⟨bq, oq, none⟩) C.length d5 C o4 (by rfl) (by rfl) hS.2 HC5.out.1 (by have := HC5.out; omega) hszp ?_
                    intro g6 c6 Y6 o6 hb hk hg6
                    have F61 : Hid (∀ a, p4 = some a → a.block ≠ g6) := by
                      intro a ha
                      obtain ⟨b, o, e, hlt, _⟩ := HI4.out.at (i := 0) (by have := HN.out; omega)
                      have h4 := F41.out a ha
                      rw [ha] at e
                      cases e
                      rcases hg6 with e1 | e1
                      · have e2 : Y3.heap.size = g6 := (by simpa [Value.ownBlock] using e1)
                        rw [← e2]; exact h4
                      · rw [e1]; exact Nat.ne_of_lt hlt
                    have HI4 := hid (HI4.out.kept (fun a ha _ hlt => hk _ hlt (by intro e; have e2 : a.block = Y3.heap.size := (by simpa [Value.ownBlock] using e); exact F41.out a ha e2)))
                    replace hBN := hBN.trans hb
                    replace o10 := (show OwnRef Y6 M _ [C0] from row_block o10 (fun u hu => hk u (World.ownsRow.lt o10 u hu).2 (by intro e; have e1 : Y1.heap.size = u := (by simpa [Value.ownBlock] using hu); have e2 : u = Y3.heap.size := (by simpa [Value.ownBlock] using e); have e3 := HNE.out; omega)))
                    clear o4 hszp hg6
                    refine hK.out _ _ (⟨hS.1.far HLW.out HCW.out hb HM2.out, hS.2.far HBQ.out hb⟩) (fun hS => ?_)
                    clear hK K
                    try simp only [Act.put, List.getElem_toArray, List.getElem_cons_zero, List.getElem_cons_succ, List.setIfInBounds_toArray, List.set_cons_zero, List.set_cons_succ]
                    refine wpAnyH_ready (rs := [11]) (by kernel_rfl) (by simp) ?_
                    refine AllReadyH.cons (o := _) rfl (fun K hK => ?_) AllReadyH.nil
                    have hszp : M ≤ Y6.heap.size := by rw [← HMM.out]; exact hBN.size
                    have hsrc : CntsAt Y6 (some ⟨Y1.heap.size, 0, none⟩) 1 [C0] := by
                      obtain ⟨p7, c9, e7, h7⟩ := o10.slice
                      cases e7
                      exact h7
                    refine step_append_ref (by rfl) (.tmp 140) (.tmp 144) (by rfl) M _ C (some ⟨Y1.heap.size, 0, none⟩) 1 1 [C0] o6 (by rfl) (by rfl) hsrc (by have := HC5.out; omega) (by decide) hszp ?_
                    intro v11 Y11 o11 hb hk
                    have HI4 := hid (HI4.out.kept (fun a ha _ hlt => hk _ hlt (by intro e; have e2 : a.block = g6 := (by simpa [Value.ownBlock] using e); exact F61.out a ha e2)))
                    replace hBN := hBN.trans hb
                    rw [HCE.out] at o11
                    obtain ⟨q11, d11, rfl, hc11⟩ := o11.slice
                    have HC11 := hid hc11
                    clear o10 o6 o11 hc11 hsrc hszp
                    refine hK.out _ _ (⟨hS.1.far HLW.out HCW.out hb HM2.out, hS.2.far HBQ.out hb⟩) (fun hS => ?_)
                    clear hK K
                    try simp only [Act.put, List.getElem_toArray, List.getElem_cons_zero, List.getElem_cons_succ, List.setIfInBounds_toArray, List.set_cons_zero, List.set_cons_succ]
                    refine wpAnyH_ready (rs := [12]) (by kernel_rfl) (by simp) ?_
                    refine AllReadyH.cons (o := _) rfl (fun K hK => ?_) AllReadyH.nil
                    go_simp
                    have hszp : M ≤ Y11.heap.size := by rw [← HMM.out]; exact hBN.size
                    refine (countsX_any q11 C'.length d11 C' _ HC11.out (by have := HCL.out; omega)).mono ?_
                    rintro e Y12 ⟨v5, rfl, ho5, hb5⟩
                    obtain ⟨q12, d12, rfl, hc12⟩ := ho5.slice
                    have HC12 := hid hc12; have HI4 := hid (HI4.out.below hb5)
                    clear hc12 ho5 hszp
                    refine hK.out _ _ (⟨hS.1.step hb5, hS.2.below hb5⟩) (fun hS => ?_)
                    clear hK K
                    try simp only [List.setIfInBounds_toArray, List.set_cons_zero, List.set_cons_succ]
                    refine wpAnyH_ready (rs := [13]) (by kernel_rfl) (by simp) ?_
                    refine AllReadyH.cons (o := _) rfl (fun K hK => ?_) AllReadyH.nil
                    go_simp
                    have hFo := Foreign_any r cc p4 n c4 l seed stp draws q12 C'.length d12 C' _ HI4.out (by have := HN.out; omega) HC12.out (by have := HCL.out; omega)
                    rw [HFV3.out.1, HFV3.out.2] at hFo
                    refine hFo.mono ?_
                    clear hFo
                    rintro e Y13 ⟨v6, rfl, ho6, hb6⟩
                    obtain ⟨py, cy, rfl, hiy⟩ := ho6.slice
                    have HIY := hid hiy
                    clear ho6 hiy
                    refine hK.out _ _ (⟨hS.1.step hb6, hS.2.below hb6⟩) (fun hS => ?_)
                    clear hK K
                    try simp only [List.setIfInBounds_toArray, List.set_cons_zero, List.set_cons_succ]
                    refine wpAnyH_take (i := 14) (v := ?_) rfl (by kernel_rfl) (by kernel_rfl) (by kernel_rfl) (fun _ _ _ h => h) (Or.inl ⟨by rfl, fun V hV => ?_⟩) (by assumption) ?_
                    rotate_left
                    · go_simp
                      try with_reducible rfl
                    try simp only [Act.put, List.getElem_toArray, List.getElem_cons_zero, List.getElem_cons_succ, List.setIfInBounds_toArray, List.set_cons_zero, List.set_cons_succ]
                    refine wpAnyH_take (i := 15) (v := ?_) rfl (by kernel_rfl) (by kernel_rfl) (by kernel_rfl) (fun _ _ _ h => h) (Or.inl ⟨by rfl, fun V hV => ?_⟩) (by assumption) ?_
                    rotate_left
                    · go_simp
                      try with_reducible rfl
                    try simp only [Act.put, List.getElem_toArray, List.getElem_cons_zero, List.getElem_cons_succ, List.setIfInBounds_toArray, List.set_cons_zero, List.set_cons_succ]
                    refine wpAnyH_take (i := 16) (v := ?_) rfl (by kernel_rfl) (by kernel_rfl) (by kernel_rfl) (fun _ _ _ h => h) (Or.inl ⟨by rfl, fun V hV => ?_⟩) (by assumption) ?_
                    rotate_left
                    · go_simp
                      try with_reducible rfl
                    try simp only [Act.put, List.getElem_toArray, List.getElem_cons_zero, List.getElem_cons_succ, List.setIfInBounds_toArray, List.set_cons_zero, List.set_cons_succ]
                    refine wpAnyH_take (i := 17) (v := ?_) rfl (by kernel_rfl) (by kernel_rfl) (by kernel_rfl) (fun _ _ _ h => h) (Or.inl ⟨by rfl, fun V hV => ?_⟩) (by assumption) ?_
                    rotate_left
                    · go_simp
                      try with_reducible rfl
                    try simp only [Act.put, List.getElem_toArray, List.getElem_cons_zero, List.getElem_cons_succ, List.setIfInBounds_toArray, List.set_cons_zero, List.set_cons_succ]
                    refine wpAnyH_take (i := 18) (v := ?_) rfl (by kernel_rfl) (by kernel_rfl) (by kernel_rfl) (fun _ _ _ h => h) (Or.inl ⟨by rfl, fun V hV => ?_⟩) (by assumption) ?_
                    rotate_left
                    · go_simp
                      try with_reducible rfl
                    try simp only [Act.put, List.getElem_toArray, List.getElem_cons_zero, List.getElem_cons_succ, List.setIfInBounds_toArray, List.set_cons_zero, List.set_cons_succ]
                    refine wpAnyH_done (by kernel_rfl) ?_ _
                    have HSZ := hid hS.1
                    clear hS
                    go_wp2
                    go_meet
                    case rel => exact ⟨py, _, rfl, rfl, HIY.out, HSZ.out⟩
                  refine AllReadyH.cons (o := _) rfl (fun K hK => ?_) AllReadyH.nil
                  have hszp : M ≤ Y10.heap.size := by rw [← HMM.out]; exact hBN.size
                  have F41 : Hid (∀ a, p4 = some a → a.block ≠ Y10.heap.size) := by
                    intro a ha
                    obtain ⟨b, o, e, hlt, _⟩ := HI4.out.at (i := 0) (by have := HN.out; omega)
                    rw [ha] at e
                    cases e
                    exact Nat.ne_of_lt hlt
                  have HNE : Hid (Y1.heap.size ≠ Y10.heap.size) := Nat.ne_of_lt (World.ownsRow.lt o10 _ rfl).2
                  obtain ⟨Y4, hY4⟩ : ∃ V, (Y10).alloc (.cells #[] 59) = V := ⟨_, rfl⟩
                  have hb : Below (Y10).heap.size (Y10) Y4 := by rw [← hY4]; exact (Below.refl _ _).alloc (Nat.le_refl _) _
                  replace hBN := hBN.trans (hb.mono hszp)
                  have HI4 := hid (HI4.out.below hb)
                  replace o10 := o10.below hb
                  have o4 : OwnRef Y4 M (.slice (some ⟨Y10.heap.size, 0, none⟩) 0 0) [] := by rw [← hY4]; exact ownRef_nil _ hszp
                  go_simp
                  clear hszp
                  refine hK.out _ _ (⟨hS.1.step hb, hS.2.below hb⟩) (fun hS => ?_)
                  clear hK K
                  try simp only [List.setIfInBounds_toArray, List.set_cons_zero, List.set_cons_succ]
                  refine wpAnyH_ready (rs := [3]) (by kernel_rfl) (by simp) ?_
                  refine AllReadyH.cons (o := _) rfl (fun K hK => ?_) AllReadyH.nil
                  go_simp
                  have hszp : M ≤ Y4.heap.size := by rw [← HMM.out]; exact hBN.size
                  refine (lotX_any seed stp draws _).mono ?_
                  rintro e Y3 ⟨rfl, hb3⟩
                  replace hBN := hBN.trans (hb3.mono hszp)
                  have HI4 := hid (HI4.out.below hb3)
                  replace o4 := o4.below hb3
                  replace o10 := o10.below hb3
                  clear hszp
                  refine hK.out _ _ (⟨hS.1.step hb3, hS.2.below hb3⟩) (fun hS => ?_)
                  clear hK K
                  try simp only [List.setIfInBounds_toArray, List.set_cons_zero, List.set_cons_succ]
                  refine wpAnyH_ready (rs := [6]) (by kernel_rfl) (by simp) ?_
                  refine AllReadyH.cons (o := _) rfl (fun K hK => ?_) AllReadyH.nil
                  have hszp : M ≤ Y3.heap.size := by rw [← HMM.out]; exact hBN.size
                  refine step_append_ref1 (by rfl) (.tmp 138) (.tmp 139) (by rfl) M _ (some ⟨bq, oq, none⟩) C.length d5 C o4 (by rfl) (by rfl) hS.2 HC5.out.1 (by have := HC5.out; omega) hszp ?_
                  intro g6 c6 Y6 o6 hb hk hg6
                  have F61 : Hid (∀ a, p4 = some a → a.block ≠ g6) := by
                    intro a ha
                    obtain ⟨b, o, e, hlt, _⟩ := HI4.out.at (i := 0) (by have := HN.out; omega)
                    have h4 := F41.out a ha
                    rw [ha] at e
                    cases e
                    rcases hg6 with e1 | e1
                    · have e2 : Y10.heap.size = g6 := (by simpa [Value.ownBlock] using e1)
                      rw [← e2]; exact h4
                    · rw [e1]; exact Nat.ne_of_lt hlt
                  have HI4 := hid (HI4.out.kept (fun a ha _ hlt => hk _ hlt (by intro e; have e2 : a.block = Y10.heap.size := (by simpa [Value.ownBlock] using e); exact F41.out a ha e2)))
                  replace hBN := hBN.trans hb
                  replace o10 := (show OwnRef Y6 M _ [C0] from row_block o10 (fun u hu => hk u (World.ownsRow.lt o10 u hu).2 (by intro e; have e1 : Y1.heap.size = u := (by simpa [Value.ownBlock] using hu); have e2 : u = Y10.heap.size := (by simpa [Value.ownBlock] using e); have e3 := HNE.out; omega)))
                  clear o4 hszp hg6
                  refine hK.out _ _ (⟨hS.1.far HLW.out HCW.out hb HM2.out, hS.2.far HBQ.out hb⟩) (fun hS => ?_)
                  clear hK K
                  try simp only [Act.put, List.getElem_toArray, List.getElem_cons_zero, List.getElem_cons_succ, List.setIfInBounds_toArray, List.set_cons_zero, List.set_cons_succ]
                  refine wpAnyH_ready (rs := [11]) (by kernel_rfl) (by simp) ?_
                  refine AllReadyH.cons (o := _) rfl (fun K hK => ?_) AllReadyH.nil
                  have hszp : M ≤ Y6.heap.size := by rw [← HMM.out]; exact hBN.size
                  have hsrc : CntsAt Y6 (some ⟨Y1.heap.size, 0, none⟩) 1 [C0] := by
                    obtain ⟨p7, c9, e7, h7⟩ := o10.slice
                    cases e7
                    exact h7
                  refine step_append_ref (by rfl) (.tmp 140) (.tmp 144) (by rfl) M _ C (some ⟨Y1.heap.size, 0, none⟩) 1 1 [C0] o6 (by rfl) (by rfl) hsrc (by have := HC5.out; omega) (by decide) hszp ?_
                  intro v11 Y11 o11 hb hk
                  have HI4 := hid (HI4.out.kept (fun a ha _ hlt => hk _ hlt (by intro e; have e2 : a.block = g6 := (by simpa [Value.ownBlock] using e); exact F61.out a ha e2)))
                  replace hBN := hBN.trans hb
                  rw [HCE.out] at o11
                  obtain ⟨q11, d11, rfl, hc11⟩ := o11.slice
                  have HC11 := hid hc11
                  clear o10 o6 o11 hc11 hsrc hszp
                  refine hK.out _ _ (⟨hS.1.far HLW.out HCW.out hb HM2.out, hS.2.far HBQ.out hb⟩) (fun hS => ?_)
                  clear hK K
                  try simp only [Act.put, List.getElem_toArray, List.getElem_cons_zero, List.getElem_cons_succ, List.setIfInBounds_toArray, List.set_cons_zero, List.set_cons_succ]
                  refine wpAnyH_ready (rs := [12]) (by kernel_rfl) (by simp) ?_
                  refine AllReadyH.cons (o := _) rfl (fun K hK => ?_) AllReadyH.nil
                  go_simp
                  have hszp : M ≤ Y11.heap.size := by rw [← HMM.out]; exact hBN.size
                  refine (countsX_any q11 C'.length d11 C' _ HC11.out (by have := HCL.out; omega)).mono ?_
                  rintro e Y12 ⟨v5, rfl, ho5, hb5⟩
                  obtain ⟨q12, d12, rfl, hc12⟩ := ho5.slice
                  have HC12 := hid hc12; have HI4 := hid (HI4.out.below hb5)
                  clear hc12 ho5 hszp
                  refine hK.out _ _ (⟨hS.1.step hb5, hS.2.below hb5⟩) (fun hS => ?_)
                  clear hK K
                  try simp only [List.setIfInBounds_toArray, List.set_cons_zero, List.set_cons_succ]
                  refine wpAnyH_ready (rs := [13]) (by kernel_rfl) (by simp) ?_
                  refine AllReadyH.cons (o := _) rfl (fun K hK => ?_) AllReadyH.nil
                  go_simp
                  have hFo := Foreign_any r cc p4 n c4 l seed stp draws q12 C'.length d12 C' _ HI4.out (by have := HN.out; omega) HC12.out (by have := HCL.out; omega)
                  rw [HFV3.out.1, HFV3.out.2] at hFo
                  refine hFo.mono ?_
                  clear hFo
                  rintro e Y13 ⟨v6, rfl, ho6, hb6⟩
                  obtain ⟨py, cy, rfl, hiy⟩ := ho6.slice
                  have HIY := hid hiy
                  clear ho6 hiy
                  refine hK.out _ _ (⟨hS.1.step hb6, hS.2.below hb6⟩) (fun hS => ?_)
                  clear hK K
                  try simp only [List.setIfInBounds_toArray, List.set_cons_zero, List.set_cons_succ]
                  refine wpAnyH_take (i := 14) (v := ?_) rfl (by kernel_rfl) (by kernel_rfl) (by kernel_rfl) (fun _ _ _ h => h) (Or.inl ⟨by rfl, fun V hV => ?_⟩) (by assumption) ?_
                  rotate_left
                  · go_simp
                    try with_reducible rfl
                  try simp only [Act.put, List.getElem_toArray, List.getElem_cons_zero, List.getElem_cons_succ, List.setIfInBounds_toArray, List.set_cons_zero, List.set_cons_succ]
                  refine wpAnyH_take (i := 15) (v := ?_) rfl (by kernel_rfl) (by kernel_rfl) (by kernel_rfl) (fun _ _ _ h => h) (Or.inl ⟨by rfl, fun V hV => ?_⟩) (by assumption) ?_
                  rotate_left
                  · go_simp
                    try with_reducible rfl
                  try simp only [Act.put, List.getElem_toArray, List.getElem_cons_zero, List.getElem_cons_succ, List.setIfInBounds_toArray, List.set_cons_zero, List.set_cons_succ]
                  refine wpAnyH_take (i := 16) (v := ?_) rfl (by kernel_rfl) (by kernel_rfl) (by kernel_rfl) (fun _ _ _ h => h) (Or.inl ⟨by rfl, fun V hV => ?_⟩) (by assumption) ?_
                  rotate_left
                  · go_simp
                    try with_reducible rfl
                  try simp only [Act.put, List.getElem_toArray, List.getElem_cons_zero, List.getElem_cons_succ, List.setIfInBounds_toArray, List.set_cons_zero, List.set_cons_succ]
                  refine wpAnyH_take (i := 17) (v := ?_) rfl (by kernel_rfl) (by kernel_rfl) (by kernel_rfl) (fun _ _ _ h => h) (Or.inl ⟨by rfl, fun V hV => ?_⟩) (by assumption) ?_
                  rotate_left
                  · go_simp
                    try with_reducible rfl
                  try simp only [Act.put, List.getElem_toArray, List.getElem_cons_zero, List.getElem_cons_succ, List.setIfInBounds_toArray, List.set_cons_zero, List.set_cons_succ]
                  refine wpAnyH_take (i := 18) (v := ?_) rfl (by kernel_rfl) (by kernel_rfl) (by kernel_rfl) (fun _ _ _ h => h) (Or.inl ⟨by rfl, fun V hV => ?_⟩) (by assumption) ?_
                  rotate_left
                  · go_simp
                    try with_reducible rfl
                  try simp only [Act.put, List.getElem_toArray, List.getElem_cons_zero, List.getElem_cons_succ, List.setIfInBounds_toArray, List.set_cons_zero, List.set_cons_succ]
                  refine wpAnyH_done (by kernel_rfl) ?_ _
                  have HSZ := hid hS.1
                  clear hS
                  go_wp2
                  go_meet
                  case rel => exact ⟨py, _, rfl, rfl, HIY.out, HSZ.out⟩
                refine AllReadyH.cons (o := _) rfl (fun K hK => ?_) ?_
                · skip
                  have hszp : M ≤ wm.heap.size := by rw [← HMM.out]; exact hBN.size
                  obtain ⟨Y4, hY4⟩ : ∃ V, (wm.drew).alloc (.cells #[] 59) = V := ⟨_, rfl⟩
                  have hb : Below (wm.drew).heap.size (wm.drew) Y4 := by rw [← hY4]; exact (Below.refl _ _).alloc (Nat.le_refl _) _
                  replace hBN := hBN.trans (hb.mono hszp)
                  have o4 : OwnRef Y4 M (.slice (some ⟨wm.heap.size, 0, none⟩) 0 0) [] := by rw [← hY4]; exact ownRef_nil _ hszp
                  go_simp
                  clear hszp
                  refine hK.out _ _ (⟨hS.1.step hb, hS.2.below hb⟩) (fun hS => ?_)
                  clear hK K
                  try simp only [List.setIfInBounds_toArray, List.set_cons_zero, List.set_cons_succ]
                  refine wpAnyH_ready (rs := [1, 10]) (by kernel_rfl) (by simp) ?_
                  refine AllReadyH.cons (o := _) rfl (fun K hK => ?_) ?_
                  · skip
                    go_simp
                    have hszp : M ≤ Y4.heap.size := by rw [← HMM.out]; exact hBN.size
                    have hl4 : wm.heap.size < Y4.heap.size := (World.ownsRow.lt o4 _ rfl).2
                    refine (fieldX_any r cc p n c l _ hS.1.ints (by have := HN.out; omega)).mono ?_
                    rintro e Y1 ⟨p4, c4, rfl, hi1, hb1, hp4⟩
                    have F41 : Hid (∀ a, p4 = some a → a.block ≠ wm.heap.size) := by
                      intro a ha
                      have h1 : Y4.heap.size + 2 ≤ a.block := hp4 a ha
                      omega
                    clear hl4
                    replace hBN := hBN.trans (hb1.mono hszp)
                    replace o4 := o4.below hb1
                    have HI4 := hid hi1
                    clear hi1 hszp hp4
                    refine hK.out _ _ (⟨hS.1.step hb1, hS.2.below hb1⟩) (fun hS => ?_)
                    clear hK K
                    try simp only [List.setIfInBounds_toArray, List.set_cons_zero, List.set_cons_succ]
                    refine wpAnyH_ready (rs := [3, 10]) (by kernel_rfl) (by simp) ?_
                    refine AllReadyH.cons (o := _) rfl (fun K hK => ?_) ?_
                    · skip
                      go_simp
                      have hszp : M ≤ Y1.heap.size := by rw [← HMM.out]; exact hBN.size
                      refine (lotX_any seed stp draws _).mono ?_
                      rintro e Y3 ⟨rfl, hb3⟩
                      replace hBN := hBN.trans (hb3.mono hszp)
                      have HI4 := hid (HI4.out.below hb3)
                      replace o4 := o4.below hb3
                      clear hszp
                      refine hK.out _ _ (⟨hS.1.step hb3, hS.2.below hb3⟩) (fun hS => ?_)
                      clear hK K
                      try simp only [List.setIfInBounds_toArray, List.set_cons_zero, List.set_cons_succ]
                      refine wpAnyH_ready (rs := [6, 10]) (by kernel_rfl) (by simp) ?_
                      refine AllReadyH.cons (o := _) rfl (fun K hK => ?_) ?_
                      · skip
                        have hszp : M ≤ Y3.heap.size := by rw [← HMM.out]; exact hBN.size
                        refine step_append_ref1 (by rfl) (.tmp 138) (.tmp 139) (by rfl) M _ (some ⟨bq, oq, none⟩) C.length d5 C o4 (by rfl) (by rfl) hS.2 HC5.out.1 (by have := HC5.out; omega) hszp ?_
                        intro g6 c6 Y6 o6 hb hk hg6
                        have F61 : Hid (∀ a, p4 = some a → a.block ≠ g6) := by
                          intro a ha
                          obtain ⟨b, o, e, hlt, _⟩ := HI4.out.at (i := 0) (by have := HN.out; omega)
                          have h4 := F41.out a ha
                          rw [ha] at e
                          cases e
                          rcases hg6 with e1 | e1
                          · have e2 : wm.heap.size = g6 := (by simpa [Value.ownBlock] using e1)
                            rw [← e2]; exact h4
                          · rw [e1]; exact Nat.ne_of_lt hlt
                        have HI4 := hid (HI4.out.kept (fun a ha _ hlt => hk _ hlt (by intro e; have e2 : a.block = wm.heap.size := (by simpa [Value.ownBlock] using e); exact F41.out a ha e2)))
                        replace hBN := hBN.trans hb
                        clear o4 hszp hg6
                        refine hK.out _ _ (⟨hS.1.far HLW.out HCW.out hb HM2.out, hS.2.far HBQ.out hb⟩) (fun hS => ?_)
                        clear hK K
                        try simp only [Act.put, List.getElem_toArray, List.getElem_cons_zero, List.getElem_cons_succ, List.setIfInBounds_toArray, List.set_cons_zero, List.set_cons_succ]
                        refine wpAnyH_ready (rs := [10]) (by kernel_rfl) (by simp) ?_
                        refine AllReadyH.cons (o := _) rfl (fun K hK => ?_) AllReadyH.nil
                        have hszp : M ≤ Y6.heap.size := by rw [← HMM.out]; exact hBN.size
                        obtain ⟨Y10, hY10⟩ : ∃ V, (Y6).alloc (.cells #[.int .i64 C0.place, .int .i64 C0.lo, .int .i64 C0.hi, .bool C0.late] 59) = V := ⟨_, rfl⟩
                        have hb : Below (Y6).heap.size (Y6) Y10 := by rw [← hY10]; exact (Below.refl _ _).alloc (Nat.le_refl _) _
                        replace hBN := hBN.trans (hb.mono hszp)
                        have HI4 := hid (HI4.out.below hb)
                        replace o6 := o6.below hb
                        have o10 : OwnRef Y10 M (.slice (some ⟨Y6.heap.size, 0, none⟩) 1 1) [C0] := by rw [← hY10]; exact (ownRef_one _ C0).base hszp
                        go_simp
                        clear hszp
                        refine hK.out _ _ (⟨hS.1.step hb, hS.2.below hb⟩) (fun hS => ?_)
                        clear hK K
                        try simp only [List.setIfInBounds_toArray, List.set_cons_zero, List.set_cons_succ]
                        refine wpAnyH_ready (rs := [11]) (by kernel_rfl) (by simp) ?_
                        refine AllReadyH.cons (o := _) rfl (fun K hK => ?_) AllReadyH.nil
                        have hszp : M ≤ Y10.heap.size := by rw [← HMM.out]; exact hBN.size
                        have hsrc : CntsAt Y10 (some ⟨Y6.heap.size, 0, none⟩) 1 [C0] := by
                          obtain ⟨p7, c9, e7, h7⟩ := o10.slice
                          cases e7
                          exact h7
                        refine step_append_ref (by rfl) (.tmp 140) (.tmp 144) (by rfl) M _ C (some ⟨Y6.heap.size, 0, none⟩) 1 1 [C0] o6 (by rfl) (by rfl) hsrc (by have := HC5.out; omega) (by decide) hszp ?_
                        intro v11 Y11 o11 hb hk
                        have HI4 := hid (HI4.out.kept (fun a ha _ hlt => hk _ hlt (by intro e; have e2 : a.block = g6 := (by simpa [Value.ownBlock] using e); exact F61.out a ha e2)))
                        replace hBN := hBN.trans hb
                        rw [HCE.out] at o11
                        obtain ⟨q11, d11, rfl, hc11⟩ := o11.slice
                        have HC11 := hid hc11
                        clear o10 o6 o11 hc11 hsrc hszp
                        refine hK.out _ _ (⟨hS.1.far HLW.out HCW.out hb HM2.out, hS.2.far HBQ.out hb⟩) (fun hS => ?_)
                        clear hK K
                        try simp only [Act.put, List.getElem_toArray, List.getElem_cons_zero, List.getElem_cons_succ, List.setIfInBounds_toArray, List.set_cons_zero, List.set_cons_succ]
                        refine wpAnyH_ready (rs := [12]) (by kernel_rfl) (by simp) ?_
                        refine AllReadyH.cons (o := _) rfl (fun K hK => ?_) AllReadyH.nil
                        go_simp
                        have hszp : M ≤ Y11.heap.size := by rw [← HMM.out]; exact hBN.size
                        refine (countsX_any q11 C'.length d11 C' _ HC11.out (by have := HCL.out; omega)).mono ?_
                        rintro e Y12 ⟨v5, rfl, ho5, hb5⟩
                        obtain ⟨q12, d12, rfl, hc12⟩ := ho5.slice
                        have HC12 := hid hc12; have HI4 := hid (HI4.out.below hb5)
                        clear hc12 ho5 hszp
                        refine hK.out _ _ (⟨hS.1.step hb5, hS.2.below hb5⟩) (fun hS => ?_)
                        clear hK K
                        try simp only [List.setIfInBounds_toArray, List.set_cons_zero, List.set_cons_succ]
                        refine wpAnyH_ready (rs := [13]) (by kernel_rfl) (by simp) ?_
                        refine AllReadyH.cons (o := _) rfl (fun K hK => ?_) AllReadyH.nil
                        go_simp
                        have hFo := Foreign_any r cc p4 n c4 l seed stp draws q12 C'.length d12 C' _ HI4.out (by have := HN.out; omega) HC12.out (by have := HCL.out; omega)
                        rw [HFV3.out.1, HFV3.out.2] at hFo
                        refine hFo.mono ?_
                        clear hFo
                        rintro e Y13 ⟨v6, rfl, ho6, hb6⟩
                        obtain ⟨py, cy, rfl, hiy⟩ := ho6.slice
                        have HIY := hid hiy
                        clear ho6 hiy
                        refine hK.out _ _ (⟨hS.1.step hb6, hS.2.below hb6⟩) (fun hS => ?_)
                        clear hK K
                        try simp only [List.setIfInBounds_toArray, List.set_cons_zero, List.set_cons_succ]
                        refine wpAnyH_take (i := 14) (v := ?_) rfl (by kernel_rfl) (by kernel_rfl) (by kernel_rfl) (fun _ _ _ h => h) (Or.inl ⟨by rfl, fun V hV => ?_⟩) (by assumption) ?_
                        rotate_left
                        · go_simp
                          try with_reducible rfl
                        try simp only [Act.put, List.getElem_toArray, List.getElem_cons_zero, List.getElem_cons_succ, List.setIfInBounds_toArray, List.set_cons_zero, List.set_cons_succ]
                        refine wpAnyH_take (i := 15) (v := ?_) rfl (by kernel_rfl) (by kernel_rfl) (by kernel_rfl) (fun _ _ _ h => h) (Or.inl ⟨by rfl, fun V hV => ?_⟩) (by assumption) ?_
                        rotate_left
                        · go_simp
                          try with_reducible rfl
                        try simp only [Act.put, List.getElem_toArray, List.getElem_cons_zero, List.getElem_cons_succ, List.setIfInBounds_toArray, List.set_cons_zero, List.set_cons_succ]
                        refine wpAnyH_take (i := 16) (v := ?_) rfl (by kernel_rfl) (by kernel_rfl) (by kernel_rfl) (fun _ _ _ h => h) (Or.inl ⟨by rfl, fun V hV => ?_⟩) (by assumption) ?_
                        rotate_left
                        · go_simp
                          try with_reducible rfl
                        try simp only [Act.put, List.getElem_toArray, List.getElem_cons_zero, List.getElem_cons_succ, List.setIfInBounds_toArray, List.set_cons_zero, List.set_cons_succ]
                        refine wpAnyH_take (i := 17) (v := ?_) rfl (by kernel_rfl) (by kernel_rfl) (by kernel_rfl) (fun _ _ _ h => h) (Or.inl ⟨by rfl, fun V hV => ?_⟩) (by assumption) ?_
                        rotate_left
                        · go_simp
                          try with_reducible rfl
                        try simp only [Act.put, List.getElem_toArray, List.getElem_cons_zero, List.getElem_cons_succ, List.setIfInBounds_toArray, List.set_cons_zero, List.set_cons_succ]
                        refine wpAnyH_take (i := 18) (v := ?_) rfl (by kernel_rfl) (by kernel_rfl) (by kernel_rfl) (fun _ _ _ h => h) (Or.inl ⟨by rfl, fun V hV => ?_⟩) (by assumption) ?_
                        rotate_left
                        · go_simp
                          try with_reducible rfl
                        try simp only [Act.put, List.getElem_toArray, List.getElem_cons_zero, List.getElem_cons_succ, List.setIfInBounds_toArray, List.set_cons_zero, List.set_cons_succ]
                        refine wpAnyH_done (by kernel_rfl) ?_ _
                        have HSZ := hid hS.1
                        clear hS
                        go_wp2
                        go_meet
                        case rel => exact ⟨py, _, rfl, rfl, HIY.out, HSZ.out⟩
                      refine AllReadyH.cons (o := _) rfl (fun K hK => ?_) AllReadyH.nil
                      have hszp : M ≤ Y3.heap.size := by rw [← HMM.out]; exact hBN.size
                      have HNE : Hid (Y3.heap.size ≠ wm.heap.size) := Nat.ne_of_gt (World.ownsRow.lt o4 _ rfl).2
                      obtain ⟨Y10, hY10⟩ : ∃ V, (Y3).alloc (.cells #[.int .i64 C0.place, .int .i64 C0.lo, .int .i64 C0.hi, .bool C0.late] 59) = V := ⟨_, rfl⟩
                      have hb : Below (Y3).heap.size (Y3) Y10 := by rw [← hY10]; exact (Below.refl _ _).alloc (Nat.le_refl _) _
                      replace hBN := hBN.trans (hb.mono hszp)
                      have HI4 := hid (HI4.out.below hb)
                      replace o4 := o4.below hb
                      have o10 : OwnRef Y10 M (.slice (some ⟨Y3.heap.size, 0, none⟩) 1 1) [C0] := by rw [← hY10]; exact (ownRef_one _ C0).base hszp
                      go_simp
                      clear hszp
                      refine hK.out _ _ (⟨hS.1.step hb, hS.2.below hb⟩) (fun hS => ?_)
                      clear hK K
                      try simp only [List.setIfInBounds_toArray, List.set_cons_zero, List.set_cons_succ]
                      refine wpAnyH_ready (rs := [6]) (by kernel_rfl) (by simp) ?_
                      refine AllReadyH.cons (o := _) rfl (fun K hK => ?_) AllReadyH.nil
                      have hszp : M ≤ Y10.heap.size := by rw [← HMM.out]; exact hBN.size
                      refine step_append_ref1 (by rfl) (.tmp 138) (.tmp 139) (by rfl) M _ (some ⟨bq, oq, none⟩) C.length d5 C o4 (by rfl) (by rfl) hS.2 HC5.out.1 (by have := HC5.out; omega) hszp ?_
                      intro g6 c6 Y6 o6 hb hk hg6
                      have F61 : Hid (∀ a, p4 = some a → a.block ≠ g6) := by
                        intro a ha
                        obtain ⟨b, o, e, hlt, _⟩ := HI4.out.at (i := 0) (by have := HN.out; omega)
                        have h4 := F41.out a ha
                        rw [ha] at e
                        cases e
                        rcases hg6 with e1 | e1
                        · have e2 : wm.heap.size = g6 := (by simpa [Value.ownBlock] using e1)
                          rw [← e2]; exact h4
                        · rw [e1]; exact Nat.ne_of_lt hlt
                      have HI4 := hid (HI4.out.kept (fun a ha _ hlt => hk _ hlt (by intro e; have e2 : a.block = wm.heap.size := (by simpa [Value.ownBlock] using e); exact F41.out a ha e2)))
                      replace hBN := hBN.trans hb
                      replace o10 := (show OwnRef Y6 M _ [C0] from row_block o10 (fun u hu => hk u (World.ownsRow.lt o10 u hu).2 (by intro e; have e1 : Y3.heap.size = u := (by simpa [Value.ownBlock] using hu); have e2 : u = wm.heap.size := (by simpa [Value.ownBlock] using e); have e3 := HNE.out; omega)))
                      clear o4 hszp hg6
                      refine hK.out _ _ (⟨hS.1.far HLW.out HCW.out hb HM2.out, hS.2.far HBQ.out hb⟩) (fun hS => ?_)
                      clear hK K
                      try simp only [Act.put, List.getElem_toArray, List.getElem_cons_zero, List.getElem_cons_succ, List.setIfInBounds_toArray, List.set_cons_zero, List.set_cons_succ]
                      refine wpAnyH_ready (rs := [11]) (by kernel_rfl) (by simp) ?_
                      refine AllReadyH.cons (o := _) rfl (fun K hK => ?_) AllReadyH.nil
                      have hszp : M ≤ Y6.heap.size := by rw [← HMM.out]; exact hBN.size
                      have hsrc : CntsAt Y6 (some ⟨Y3.heap.size, 0, none⟩) 1 [C0] := by
                        obtain ⟨p7, c9, e7, h7⟩ := o10.slice
                        cases e7
                        exact h7
                      refine step_append_ref (by rfl) (.tmp 140) (.tmp 144) (by rfl) M _ C (some ⟨Y3.heap.size, 0, none⟩) 1 1 [C0] o6 (by rfl) (by rfl) hsrc (by have := HC5.out; omega) (by decide) hszp ?_
                      intro v11 Y11 o11 hb hk
                      have HI4 := hid (HI4.out.kept (fun a ha _ hlt => hk _ hlt (by intro e; have e2 : a.block = g6 := (by simpa [Value.ownBlock] using e); exact F61.out a ha e2)))
                      replace hBN := hBN.trans hb
                      rw [HCE.out] at o11
                      obtain ⟨q11, d11, rfl, hc11⟩ := o11.slice
                      have HC11 := hid hc11
                      clear o10 o6 o11 hc11 hsrc hszp
                      refine hK.out _ _ (⟨hS.1.far HLW.out HCW.out hb HM2.out, hS.2.far HBQ.out hb⟩) (fun hS => ?_)
                      clear hK K
                      try simp only [Act.put, List.getElem_toArray, List.getElem_cons_zero, List.getElem_cons_succ, List.setIfInBounds_toArray, List.set_cons_zero, List.set_cons_succ]
                      refine wpAnyH_ready (rs := [12]) (by kernel_rfl) (by simp) ?_
                      refine AllReadyH.cons (o := _) rfl (fun K hK => ?_) AllReadyH.nil
                      go_simp
                      have hszp : M ≤ Y11.heap.size := by rw [← HMM.out]; exact hBN.size
                      refine (countsX_any q11 C'.length d11 C' _ HC11.out (by have := HCL.out; omega)).mono ?_
                      rintro e Y12 ⟨v5, rfl, ho5, hb5⟩
                      obtain ⟨q12, d12, rfl, hc12⟩ := ho5.slice
                      have HC12 := hid hc12; have HI4 := hid (HI4.out.below hb5)
                      clear hc12 ho5 hszp
                      refine hK.out _ _ (⟨hS.1.step hb5, hS.2.below hb5⟩) (fun hS => ?_)
                      clear hK K
                      try simp only [List.setIfInBounds_toArray, List.set_cons_zero, List.set_cons_succ]
                      refine wpAnyH_ready (rs := [13]) (by kernel_rfl) (by simp) ?_
                      refine AllReadyH.cons (o := _) rfl (fun K hK => ?_) AllReadyH.nil
                      go_simp
                      have hFo := Foreign_any r cc p4 n c4 l seed stp draws q12 C'.length d12 C' _ HI4.out (by have := HN.out; omega) HC12.out (by have := HCL.out; omega)
                      rw [HFV3.out.1, HFV3.out.2] at hFo
                      refine hFo.mono ?_
                      clear hFo
                      rintro e Y13 ⟨v6, rfl, ho6, hb6⟩
                      obtain ⟨py, cy, rfl, hiy⟩ := ho6.slice
                      have HIY := hid hiy
                      clear ho6 hiy
                      refine hK.out _ _ (⟨hS.1.step hb6, hS.2.below hb6⟩) (fun hS => ?_)
                      clear hK K
                      try simp only [List.setIfInBounds_toArray, List.set_cons_zero, List.set_cons_succ]
                      refine wpAnyH_take (i := 14) (v := ?_) rfl (by kernel_rfl) (by kernel_rfl) (by kernel_rfl) (fun _ _ _ h => h) (Or.inl ⟨by rfl, fun V hV => ?_⟩) (by assumption) ?_
                      rotate_left
                      · go_simp
                        try with_reducible rfl
                      try simp only [Act.put, List.getElem_toArray, List.getElem_cons_zero, List.getElem_cons_succ, List.setIfInBounds_toArray, List.set_cons_zero, List.set_cons_succ]
                      refine wpAnyH_take (i := 15) (v := ?_) rfl (by kernel_rfl) (by kernel_rfl) (by kernel_rfl) (fun _ _ _ h => h) (Or.inl ⟨by rfl, fun V hV => ?_⟩) (by assumption) ?_
                      rotate_left
                      · go_simp
                        try with_reducible rfl
                      try simp only [Act.put, List.getElem_toArray, List.getElem_cons_zero, List.getElem_cons_succ, List.setIfInBounds_toArray, List.set_cons_zero, List.set_cons_succ]
                      refine wpAnyH_take (i := 16) (v := ?_) rfl (by kernel_rfl) (by kernel_rfl) (by kernel_rfl) (fun _ _ _ h => h) (Or.inl ⟨by rfl, fun V hV => ?_⟩) (by assumption) ?_
                      rotate_left
                      · go_simp
                        try with_reducible rfl
                      try simp only [Act.put, List.getElem_toArray, List.getElem_cons_zero, List.getElem_cons_succ, List.setIfInBounds_toArray, List.set_cons_zero, List.set_cons_succ]
                      refine wpAnyH_take (i := 17) (v := ?_) rfl (by kernel_rfl) (by kernel_rfl) (by kernel_rfl) (fun _ _ _ h => h) (Or.inl ⟨by rfl, fun V hV => ?_⟩) (by assumption) ?_
                      rotate_left
                      · go_simp
                        try with_reducible rfl
                      try simp only [Act.put, List.getElem_toArray, List.getElem_cons_zero, List.getElem_cons_succ, List.setIfInBounds_toArray, List.set_cons_zero, List.set_cons_succ]
                      refine wpAnyH_take (i := 18) (v := ?_) rfl (by kernel_rfl) (by kernel_rfl) (by kernel_rfl) (fun _ _ _ h => h) (Or.inl ⟨by rfl, fun V hV => ?_⟩) (by assumption) ?_
                      rotate_left
                      · go_simp
                        try with_reducible rfl
                      try simp only [Act.put, List.getElem_toArray, List.getElem_cons_zero, List.getElem_cons_succ, List.setIfInBounds_toArray, List.set_cons_zero, List.set_cons_succ]
                      refine wpAnyH_done (by kernel_rfl) ?_ _
                      have HSZ := hid hS.1
                      clear hS
                      go_wp2
                      go_meet
                      case rel => exact ⟨py, _, rfl, rfl, HIY.out, HSZ.out⟩
                    refine AllReadyH.cons (o := _) rfl (fun K hK => ?_) AllReadyH.nil
                    have hszp : M ≤ Y1.heap.size := by rw [← HMM.out]; exact hBN.size
                    have HNE : Hid (Y1.heap.size ≠ wm.heap.size) := Nat.ne_of_gt (World.ownsRow.lt o4 _ rfl).2
                    obtain ⟨Y10, hY10⟩ : ∃ V, (Y1).alloc (.cells #[.int .i64 C0.place, .int .i64 C0.lo, .int .i64 C0.hi, .bool C0.late] 59) = V := ⟨_, rfl⟩
                    have hb : Below (Y1).heap.size (Y1) Y10 := by rw [← hY10]; exact (Below.refl _ _).alloc (Nat.le_refl _) _
                    replace hBN := hBN.trans (hb.mono hszp)
                    have HI4 := hid (HI4.out.below hb)
                    replace o4 := o4.below hb
                    have o10 : OwnRef Y10 M (.slice (some ⟨Y1.heap.size, 0, none⟩) 1 1) [C0] := by rw [← hY10]; exact (ownRef_one _ C0).base hszp
                    go_simp
                    clear hszp
                    refine hK.out _ _ (⟨hS.1.step hb, hS.2.below hb⟩) (fun hS => ?_)
                    clear hK K
                    try simp only [List.setIfInBounds_toArray, List.set_cons_zero, List.set_cons_succ]
                    refine wpAnyH_ready (rs := [3]) (by kernel_rfl) (by simp) ?_
                    refine AllReadyH.cons (o := _) rfl (fun K hK => ?_) AllReadyH.nil
                    go_simp
                    have hszp : M ≤ Y10.heap.size := by rw [← HMM.out]; exact hBN.size
                    refine (lotX_any seed stp draws _).mono ?_
                    rintro e Y3 ⟨rfl, hb3⟩
                    replace hBN := hBN.trans (hb3.mono hszp)
                    have HI4 := hid (HI4.out.below hb3)
                    replace o4 := o4.below hb3
                    replace o10 := o10.below hb3
                    clear hszp
                    refine hK.out _ _ (⟨hS.1.step hb3, hS.2.below hb3⟩) (fun hS => ?_)
                    clear hK K
                    try simp only [List.setIfInBounds_toArray, List.set_cons_zero, List.set_cons_succ]
                    refine wpAnyH_ready (rs := [6]) (by kernel_rfl) (by simp) ?_
                    refine AllReadyH.cons (o := _) rfl (fun K hK => ?_) AllReadyH.nil
                    have hszp : M ≤ Y3.heap.size := by rw [← HMM.out]; exact hBN.size
                    refine step_append_ref1 (by rfl) (.tmp 138) (.tmp 139) (by rfl) M _ (some ⟨bq, oq, none⟩) C.length d5 C o4 (by rfl) (by rfl) hS.2 HC5.out.1 (by have := HC5.out; omega) hszp ?_
                    intro g6 c6 Y6 o6 hb hk hg6
                    have F61 : Hid (∀ a, p4 = some a → a.block ≠ g6) := by
                      intro a ha
                      obtain ⟨b, o, e, hlt, _⟩ := HI4.out.at (i := 0) (by have := HN.out; omega)
                      have h4 := F41.out a ha
                      rw [ha] at e
                      cases e
                      rcases hg6 with e1 | e1
                      · have e2 : wm.heap.size = g6 := (by simpa [Value.ownBlock] using e1)
                        rw [← e2]; exact h4
                      · rw [e1]; exact Nat.ne_of_lt hlt
                    have HI4 := hid (HI4.out.kept (fun a ha _ hlt => hk _ hlt (by intro e; have e2 : a.block = wm.heap.size := (by simpa [Value.ownBlock] using e); exact F41.out a ha e2)))
                    replace hBN := hBN.trans hb
                    replace o10 := (show OwnRef Y6 M _ [C0] from row_block o10 (fun u hu => hk u (World.ownsRow.lt o10 u hu).2 (by intro e; have e1 : Y1.heap.size = u := (by simpa [Value.ownBlock] using hu); have e2 : u = wm.heap.size := (by simpa [Value.ownBlock] using e); have e3 := HNE.out; omega)))
                    clear o4 hszp hg6
                    refine hK.out _ _ (⟨hS.1.far HLW.out HCW.out hb HM2.out, hS.2.far HBQ.out hb⟩) (fun hS => ?_)
                    clear hK K
                    try simp only [Act.put, List.getElem_toArray, List.getElem_cons_zero, List.getElem_cons_succ, List.setIfInBounds_toArray, List.set_cons_zero, List.set_cons_succ]
                    refine wpAnyH_ready (rs := [11]) (by kernel_rfl) (by simp) ?_
                    refine AllReadyH.cons (o := _) rfl (fun K hK => ?_) AllReadyH.nil
                    have hszp : M ≤ Y6.heap.size := by rw [← HMM.out]; exact hBN.size
                    have hsrc : CntsAt Y6 (some ⟨Y1.heap.size, 0, none⟩) 1 [C0] := by
                      obtain ⟨p7, c9, e7, h7⟩ := o10.slice
                      cases e7
                      exact h7
                    refine step_append_ref (by rfl) (.tmp 140) (.tmp 144) (by rfl) M _ C (some ⟨Y1.heap.size, 0, none⟩) 1 1 [C0] o6 (by rfl) (by rfl) hsrc (by have := HC5.out; omega) (by decide) hszp ?_
                    intro v11 Y11 o11 hb hk
                    have HI4 := hid (HI4.out.kept (fun a ha _ hlt => hk _ hlt (by intro e; have e2 : a.block = g6 := (by simpa [Value.ownBlock] using e); exact F61.out a ha e2)))
                    replace hBN := hBN.trans hb
                    rw [HCE.out] at o11
                    obtain ⟨q11, d11, rfl, hc11⟩ := o11.slice
                    have HC11 := hid hc11
                    clear o10 o6 o11 hc11 hsrc hszp
                    refine hK.out _ _ (⟨hS.1.far HLW.out HCW.out hb HM2.out, hS.2.far HBQ.out hb⟩) (fun hS => ?_)
                    clear hK K
                    try simp only [Act.put, List.getElem_toArray, List.getElem_cons_zero, List.getElem_cons_succ, List.setIfInBounds_toArray, List.set_cons_zero, List.set_cons_succ]
                    refine wpAnyH_ready (rs := [12]) (by kernel_rfl) (by simp) ?_
                    refine AllReadyH.cons (o := _) rfl (fun K hK => ?_) AllReadyH.nil
                    go_simp
                    have hszp : M ≤ Y11.heap.size := by rw [← HMM.out]; exact hBN.size
                    refine (countsX_any q11 C'.length d11 C' _ HC11.out (by have := HCL.out; omega)).mono ?_
                    rintro e Y12 ⟨v5, rfl, ho5, hb5⟩
                    obtain ⟨q12, d12, rfl, hc12⟩ := ho5.slice
                    have HC12 := hid hc12; have HI4 := hid (HI4.out.below hb5)
                    clear hc12 ho5 hszp
                    refine hK.out _ _ (⟨hS.1.step hb5, hS.2.below hb5⟩) (fun hS => ?_)
                    clear hK K
                    try simp only [List.setIfInBounds_toArray, List.set_cons_zero, List.set_cons_succ]
                    refine wpAnyH_ready (rs := [13]) (by kernel_rfl) (by simp) ?_
                    refine AllReadyH.cons (o := _) rfl (fun K hK => ?_) AllReadyH.nil
                    go_simp
                    have hFo := Foreign_any r cc p4 n c4 l seed stp draws q12 C'.length d12 C' _ HI4.out (by have := HN.out; omega) HC12.out (by have := HCL.out; omega)
                    rw [HFV3.out.1, HFV3.out.2] at hFo
                    refine hFo.mono ?_
                    clear hFo
                    rintro e Y13 ⟨v6, rfl, ho6, hb6⟩
                    obtain ⟨py, cy, rfl, hiy⟩ := ho6.slice
                    have HIY := hid hiy
                    clear ho6 hiy
                    refine hK.out _ _ (⟨hS.1.step hb6, hS.2.below hb6⟩) (fun hS => ?_)
                    clear hK K
                    try simp only [List.setIfInBounds_toArray, List.set_cons_zero, List.set_cons_succ]
                    refine wpAnyH_take (i := 14) (v := ?_) rfl (by kernel_rfl) (by kernel_rfl) (by kernel_rfl) (fun _ _ _ h => h) (Or.inl ⟨by rfl, fun V hV => ?_⟩) (by assumption) ?_
                    rotate_left
                    · go_simp
                      try with_reducible rfl
                    try simp only [Act.put, List.getElem_toArray, List.getElem_cons_zero, List.getElem_cons_succ, List.setIfInBounds_toArray, List.set_cons_zero, List.set_cons_succ]
                    refine wpAnyH_take (i := 15) (v := ?_) rfl (by kernel_rfl) (by kernel_rfl) (by kernel_rfl) (fun _ _ _ h => h) (Or.inl ⟨by rfl, fun V hV => ?_⟩) (by assumption) ?_
                    rotate_left
                    · go_simp
                      try with_reducible rfl
                    try simp only [Act.put, List.getElem_toArray, List.getElem_cons_zero, List.getElem_cons_succ, List.setIfInBounds_toArray, List.set_cons_zero, List.set_cons_succ]
                    refine wpAnyH_take (i := 16) (v := ?_) rfl (by kernel_rfl) (by kernel_rfl) (by kernel_rfl) (fun _ _ _ h => h) (Or.inl ⟨by rfl, fun V hV => ?_⟩) (by assumption) ?_
                    rotate_left
                    · go_simp
                      try with_reducible rfl
                    try simp only [Act.put, List.getElem_toArray, List.getElem_cons_zero, List.getElem_cons_succ, List.setIfInBounds_toArray, List.set_cons_zero, List.set_cons_succ]
                    refine wpAnyH_take (i := 17) (v := ?_) rfl (by kernel_rfl) (by kernel_rfl) (by kernel_rfl) (fun _ _ _ h => h) (Or.inl ⟨by rfl, fun V hV => ?_⟩) (by assumption) ?_
                    rotate_left
                    · go_simp
                      try with_reducible rfl
                    try simp only [Act.put, List.getElem_toArray, List.getElem_cons_zero, List.getElem_cons_succ, List.setIfInBounds_toArray, List.set_cons_zero, List.set_cons_succ]
                    refine wpAnyH_take (i := 18) (v := ?_) rfl (by kernel_rfl) (by kernel_rfl) (by kernel_rfl) (fun _ _ _ h => h) (Or.inl ⟨by rfl, fun V hV => ?_⟩) (by assumption) ?_
                    rotate_left
                    · go_simp
                      try with_reducible rfl
                    try simp only [Act.put, List.getElem_toArray, List.getElem_cons_zero, List.getElem_cons_succ, List.setIfInBounds_toArray, List.set_cons_zero, List.set_cons_succ]
                    refine wpAnyH_done (by kernel_rfl) ?_ _
                    have HSZ := hid hS.1
                    clear hS
                    go_wp2
                    go_meet
                    case rel => exact ⟨py, _, rfl, rfl, HIY.out, HSZ.out⟩
                  refine AllReadyH.cons (o := _) rfl (fun K hK => ?_) AllReadyH.nil
                  have hszp : M ≤ Y4.heap.size := by rw [← HMM.out]; exact hBN.size
                  have HNE : Hid (Y4.heap.size ≠ wm.heap.size) := Nat.ne_of_gt (World.ownsRow.lt o4 _ rfl).2
                  obtain ⟨Y10, hY10⟩ : ∃ V, (Y4).alloc (.cells #[.int .i64 C0.place, .int .i64 C0.lo, .int .i64 C0.hi, .bool C0.late] 59) = V := ⟨_, rfl⟩
                  have hb : Below (Y4).heap.size (Y4) Y10 := by rw [← hY10]; exact (Below.refl _ _).alloc (Nat.le_refl _) _
                  replace hBN := hBN.trans (hb.mono hszp)
                  replace o4 := o4.below hb
                  have o10 : OwnRef Y10 M (.slice (some ⟨Y4.heap.size, 0, none⟩) 1 1) [C0] := by rw [← hY10]; exact (ownRef_one _ C0).base hszp
                  go_simp
                  clear hszp
                  refine hK.out _ _ (⟨hS.1.step hb, hS.2.below hb⟩) (fun hS => ?_)
                  clear hK K
                  try simp only [List.setIfInBounds_toArray, List.set_cons_zero, List.set_cons_succ]
                  refine wpAnyH_ready (rs := [1]) (by kernel_rfl) (by simp) ?_
                  refine AllReadyH.cons (o := _) rfl (fun K hK => ?_) AllReadyH.nil
                  go_simp
                  have hszp : M ≤ Y10.heap.size := by rw [← HMM.out]; exact hBN.size
                  have hl4 : wm.heap.size < Y10.heap.size := (World.ownsRow.lt o4 _ rfl).2
                  refine (fieldX_any r cc p n c l _ hS.1.ints (by have := HN.out; omega)).mono ?_
                  rintro e Y1 ⟨p4, c4, rfl, hi1, hb1, hp4⟩
                  have F41 : Hid (∀ a, p4 = some a → a.block ≠ wm.heap.size) := by
                    intro a ha
                    have h1 : Y10.heap.size + 2 ≤ a.block := hp4 a ha
                    omega
                  clear hl4
                  replace hBN := hBN.trans (hb1.mono hszp)
                  replace o4 := o4.below hb1
                  replace o10 := o10.below hb1
                  have HI4 := hid hi1
                  clear hi1 hszp hp4
                  refine hK.out _ _ (⟨hS.1.step hb1, hS.2.below hb1⟩) (fun hS => ?_)
                  clear hK K
                  try simp only [List.setIfInBounds_toArray, List.set_cons_zero, List.set_cons_succ]
                  refine wpAnyH_ready (rs := [3]) (by kernel_rfl) (by simp) ?_
                  refine AllReadyH.cons (o := _) rfl (fun K hK => ?_) AllReadyH.nil
                  go_simp
                  have hszp : M ≤ Y1.heap.size := by rw [← HMM.out]; exact hBN.size
                  refine (lotX_any seed stp draws _).mono ?_
                  rintro e Y3 ⟨rfl, hb3⟩
                  replace hBN := hBN.trans (hb3.mono hszp)
                  have HI4 := hid (HI4.out.below hb3)
                  replace o4 := o4.below hb3
                  replace o10 := o10.below hb3
                  clear hszp
                  refine hK.out _ _ (⟨hS.1.step hb3, hS.2.below hb3⟩) (fun hS => ?_)
                  clear hK K
                  try simp only [List.setIfInBounds_toArray, List.set_cons_zero, List.set_cons_succ]
                  refine wpAnyH_ready (rs := [6]) (by kernel_rfl) (by simp) ?_
                  refine AllReadyH.cons (o := _) rfl (fun K hK => ?_) AllReadyH.nil
                  have hszp : M ≤ Y3.heap.size := by rw [← HMM.out]; exact hBN.size
                  refine step_append_ref1 (by rfl) (.tmp 138) (.tmp 139) (by rfl) M _ (some ⟨bq, oq, none⟩) C.length d5 C o4 (by rfl) (by rfl) hS.2 HC5.out.1 (by have := HC5.out; omega) hszp ?_
                  intro g6 c6 Y6 o6 hb hk hg6
                  have F61 : Hid (∀ a, p4 = some a → a.block ≠ g6) := by
                    intro a ha
                    obtain ⟨b, o, e, hlt, _⟩ := HI4.out.at (i := 0) (by have := HN.out; omega)
                    have h4 := F41.out a ha
                    rw [ha] at e
                    cases e
                    rcases hg6 with e1 | e1
                    · have e2 : wm.heap.size = g6 := (by simpa [Value.ownBlock] using e1)
                      rw [← e2]; exact h4
                    · rw [e1]; exact Nat.ne_of_lt hlt
                  have HI4 := hid (HI4.out.kept (fun a ha _ hlt => hk _ hlt (by intro e; have e2 : a.block = wm.heap.size := (by simpa [Value.ownBlock] using e); exact F41.out a ha e2)))
                  replace hBN := hBN.trans hb
                  replace o10 := (show OwnRef Y6 M _ [C0] from row_block o10 (fun u hu => hk u (World.ownsRow.lt o10 u hu).2 (by intro e; have e1 : Y4.heap.size = u := (by simpa [Value.ownBlock] using hu); have e2 : u = wm.heap.size := (by simpa [Value.ownBlock] using e); have e3 := HNE.out; omega)))
                  clear o4 hszp hg6
                  refine hK.out _ _ (⟨hS.1.far HLW.out HCW.out hb HM2.out, hS.2.far HBQ.out hb⟩) (fun hS => ?_)
                  clear hK K
                  try simp only [Act.put, List.getElem_toArray, List.getElem_cons_zero, List.getElem_cons_succ, List.setIfInBounds_toArray, List.set_cons_zero, List.set_cons_succ]
                  refine wpAnyH_ready (rs := [11]) (by kernel_rfl) (by simp) ?_
                  refine AllReadyH.cons (o := _) rfl (fun K hK => ?_) AllReadyH.nil
                  have hszp : M ≤ Y6.heap.size := by rw [← HMM.out]; exact hBN.size
                  have hsrc : CntsAt Y6 (some ⟨Y4.heap.size, 0, none⟩) 1 [C0] := by
                    obtain ⟨p7, c9, e7, h7⟩ := o10.slice
                    cases e7
                    exact h7
                  refine step_append_ref (by rfl) (.tmp 140) (.tmp 144) (by rfl) M _ C (some ⟨Y4.heap.size, 0, none⟩) 1 1 [C0] o6 (by rfl) (by rfl) hsrc (by have := HC5.out; omega) (by decide) hszp ?_
                  intro v11 Y11 o11 hb hk
                  have HI4 := hid (HI4.out.kept (fun a ha _ hlt => hk _ hlt (by intro e; have e2 : a.block = g6 := (by simpa [Value.ownBlock] using e); exact F61.out a ha e2)))
                  replace hBN := hBN.trans hb
                  rw [HCE.out] at o11
                  obtain ⟨q11, d11, rfl, hc11⟩ := o11.slice
                  have HC11 := hid hc11
                  clear o10 o6 o11 hc11 hsrc hszp
                  refine hK.out _ _ (⟨hS.1.far HLW.out HCW.out hb HM2.out, hS.2.far HBQ.out hb⟩) (fun hS => ?_)
                  clear hK K
                  try simp only [Act.put, List.getElem_toArray, List.getElem_cons_zero, List.getElem_cons_succ, List.setIfInBounds_toArray, List.set_cons_zero, List.set_cons_succ]
                  refine wpAnyH_ready (rs := [12]) (by kernel_rfl) (by simp) ?_
                  refine AllReadyH.cons (o := _) rfl (fun K hK => ?_) AllReadyH.nil
                  go_simp
                  have hszp : M ≤ Y11.heap.size := by rw [← HMM.out]; exact hBN.size
                  refine (countsX_any q11 C'.length d11 C' _ HC11.out (by have := HCL.out; omega)).mono ?_
                  rintro e Y12 ⟨v5, rfl, ho5, hb5⟩
                  obtain ⟨q12, d12, rfl, hc12⟩ := ho5.slice
                  have HC12 := hid hc12; have HI4 := hid (HI4.out.below hb5)
                  clear hc12 ho5 hszp
                  refine hK.out _ _ (⟨hS.1.step hb5, hS.2.below hb5⟩) (fun hS => ?_)
                  clear hK K
                  try simp only [List.setIfInBounds_toArray, List.set_cons_zero, List.set_cons_succ]
                  refine wpAnyH_ready (rs := [13]) (by kernel_rfl) (by simp) ?_
                  refine AllReadyH.cons (o := _) rfl (fun K hK => ?_) AllReadyH.nil
                  go_simp
                  have hFo := Foreign_any r cc p4 n c4 l seed stp draws q12 C'.length d12 C' _ HI4.out (by have := HN.out; omega) HC12.out (by have := HCL.out; omega)
                  rw [HFV3.out.1, HFV3.out.2] at hFo
                  refine hFo.mono ?_
                  clear hFo
                  rintro e Y13 ⟨v6, rfl, ho6, hb6⟩
                  obtain ⟨py, cy, rfl, hiy⟩ := ho6.slice
                  have HIY := hid hiy
                  clear ho6 hiy
                  refine hK.out _ _ (⟨hS.1.step hb6, hS.2.below hb6⟩) (fun hS => ?_)
                  clear hK K
                  try simp only [List.setIfInBounds_toArray, List.set_cons_zero, List.set_cons_succ]
                  refine wpAnyH_take (i := 14) (v := ?_) rfl (by kernel_rfl) (by kernel_rfl) (by kernel_rfl) (fun _ _ _ h => h) (Or.inl ⟨by rfl, fun V hV => ?_⟩) (by assumption) ?_
                  rotate_left
                  · go_simp
                    try with_reducible rfl
                  try simp only [Act.put, List.getElem_toArray, List.getElem_cons_zero, List.getElem_cons_succ, List.setIfInBounds_toArray, List.set_cons_zero, List.set_cons_succ]
                  refine wpAnyH_take (i := 15) (v := ?_) rfl (by kernel_rfl) (by kernel_rfl) (by kernel_rfl) (fun _ _ _ h => h) (Or.inl ⟨by rfl, fun V hV => ?_⟩) (by assumption) ?_
                  rotate_left
                  · go_simp
                    try with_reducible rfl
                  try simp only [Act.put, List.getElem_toArray, List.getElem_cons_zero, List.getElem_cons_succ, List.setIfInBounds_toArray, List.set_cons_zero, List.set_cons_succ]
                  refine wpAnyH_take (i := 16) (v := ?_) rfl (by kernel_rfl) (by kernel_rfl) (by kernel_rfl) (fun _ _ _ h => h) (Or.inl ⟨by rfl, fun V hV => ?_⟩) (by assumption) ?_
                  rotate_left
                  · go_simp
                    try with_reducible rfl
                  try simp only [Act.put, List.getElem_toArray, List.getElem_cons_zero, List.getElem_cons_succ, List.setIfInBounds_toArray, List.set_cons_zero, List.set_cons_succ]
                  refine wpAnyH_take (i := 17) (v := ?_) rfl (by kernel_rfl) (by kernel_rfl) (by kernel_rfl) (fun _ _ _ h => h) (Or.inl ⟨by rfl, fun V hV => ?_⟩) (by assumption) ?_
                  rotate_left
                  · go_simp
                    try with_reducible rfl
                  try simp only [Act.put, List.getElem_toArray, List.getElem_cons_zero, List.getElem_cons_succ, List.setIfInBounds_toArray, List.set_cons_zero, List.set_cons_succ]
                  refine wpAnyH_take (i := 18) (v := ?_) rfl (by kernel_rfl) (by kernel_rfl) (by kernel_rfl) (fun _ _ _ h => h) (Or.inl ⟨by rfl, fun V hV => ?_⟩) (by assumption) ?_
                  rotate_left
                  · go_simp
                    try with_reducible rfl
                  try simp only [Act.put, List.getElem_toArray, List.getElem_cons_zero, List.getElem_cons_succ, List.setIfInBounds_toArray, List.set_cons_zero, List.set_cons_succ]
                  refine wpAnyH_done (by kernel_rfl) ?_ _
                  have HSZ := hid hS.1
                  clear hS
                  go_wp2
                  go_meet
                  case rel => exact ⟨py, _, rfl, rfl, HIY.out, HSZ.out⟩
                refine AllReadyH.cons (o := _) rfl (fun K hK => ?_) AllReadyH.nil
                have hszp : M ≤ wm.heap.size := by rw [← HMM.out]; exact hBN.size
                obtain ⟨Y10, hY10⟩ : ∃ V, (wm.drew).alloc (.cells #[.int .i64 C0.place, .int .i64 C0.lo, .int .i64 C0.hi, .bool C0.late] 59) = V := ⟨_, rfl⟩
                have hb : Below (wm.drew).heap.size (wm.drew) Y10 := by rw [← hY10]; exact (Below.refl _ _).alloc (Nat.le_refl _) _
                replace hBN := hBN.trans (hb.mono hszp)
                have o10 : OwnRef Y10 M (.slice (some ⟨wm.heap.size, 0, none⟩) 1 1) [C0] := by rw [← hY10]; exact (ownRef_one _ C0).base hszp
                go_simp
                clear hszp
                refine hK.out _ _ (⟨hS.1.step hb, hS.2.below hb⟩) (fun hS => ?_)
                clear hK K
                try simp only [List.setIfInBounds_toArray, List.set_cons_zero, List.set_cons_succ]
                refine wpAnyH_ready (rs := [1, 4]) (by kernel_rfl) (by simp) ?_
                refine AllReadyH.cons (o := _) rfl (fun K hK => ?_) ?_
                · skip
                  go_simp
                  have hszp : M ≤ Y10.heap.size := by rw [← HMM.out]; exact hBN.size
                  refine (fieldX_any r cc p n c l _ hS.1.ints (by have := HN.out; omega)).mono ?_
                  rintro e Y1 ⟨p4, c4, rfl, hi1, hb1, hp4⟩
                  replace hBN := hBN.trans (hb1.mono hszp)
                  replace o10 := o10.below hb1
                  have HI4 := hid hi1
                  clear hi1 hszp hp4
                  refine hK.out _ _ (⟨hS.1.step hb1, hS.2.below hb1⟩) (fun hS => ?_)
                  clear hK K
                  try simp only [List.setIfInBounds_toArray, List.set_cons_zero, List.set_cons_succ]
                  refine wpAnyH_ready (rs := [3, 4]) (by kernel_rfl) (by simp) ?_
                  refine AllReadyH.cons (o := _) rfl (fun K hK => ?_) ?_
                  · skip
                    go_simp
                    have hszp : M ≤ Y1.heap.size := by rw [← HMM.out]; exact hBN.size
                    refine (lotX_any seed stp draws _).mono ?_
                    rintro e Y3 ⟨rfl, hb3⟩
                    replace hBN := hBN.trans (hb3.mono hszp)
                    have HI4 := hid (HI4.out.below hb3)
                    replace o10 := o10.below hb3
                    clear hszp
                    refine hK.out _ _ (⟨hS.1.step hb3, hS.2.below hb3⟩) (fun hS => ?_)
                    clear hK K
                    try simp only [List.setIfInBounds_toArray, List.set_cons_zero, List.set_cons_succ]
                    refine wpAnyH_ready (rs := [4]) (by kernel_rfl) (by simp) ?_
                    refine AllReadyH.cons (o := _) rfl (fun K hK => ?_) AllReadyH.nil
                    have hszp : M ≤ Y3.heap.size := by rw [← HMM.out]; exact hBN.size
                    have F41 : Hid (∀ a, p4 = some a → a.block ≠ Y3.heap.size) := by
                      intro a ha
                      obtain ⟨b, o, e, hlt, _⟩ := HI4.out.at (i := 0) (by have := HN.out; omega)
                      rw [ha] at e
                      cases e
                      exact Nat.ne_of_lt hlt
                    have HNE : Hid (wm.heap.size ≠ Y3.heap.size) := Nat.ne_of_lt (World.ownsRow.lt o10 _ rfl).2
                    obtain ⟨Y4, hY4⟩ : ∃ V, (Y3).alloc (.cells #[] 59) = V := ⟨_, rfl⟩
                    have hb : Below (Y3).heap.size (Y3) Y4 := by rw [← hY4]; exact (Below.refl _ _).alloc (Nat.le_refl _) _
                    replace hBN := hBN.trans (hb.mono hszp)
                    have HI4 := hid (HI4.out.below hb)
                    replace o10 := o10.below hb
                    have o4 : OwnRef Y4 M (.slice (some ⟨Y3.heap.size, 0, none⟩) 0 0) [] := by rw [← hY4]; exact ownRef_nil _ hszp
                    go_simp
                    clear hszp
                    refine hK.out _ _ (⟨hS.1.step hb, hS.2.below hb⟩) (fun hS => ?_)
                    clear hK K
                    try simp only [List.setIfInBounds_toArray, List.set_cons_zero, List.set_cons_succ]
                    refine wpAnyH_ready (rs := [6]) (by kernel_rfl) (by simp) ?_
                    refine AllReadyH.cons (o := _) rfl (fun K hK => ?_) AllReadyH.nil
                    have hszp : M ≤ Y4.heap.size := by rw [← HMM.out]; exact hBN.size
                    refine step_append_ref1 (by rfl) (.tmp 138) (.tmp 139) (by rfl) M _ (some ⟨bq, oq, none⟩) C.length d5 C o4 (by rfl) (by rfl) hS.2 HC5.out.1 (by have := HC5.out; omega) hszp ?_
                    intro g6 c6 Y6 o6 hb hk hg6
                    have F61 : Hid (∀ a, p4 = some a → a.block ≠ g6) := by
                      intro a ha
                      obtain ⟨b, o, e, hlt, _⟩ := HI4.out.at (i := 0) (by have := HN.out; omega)
                      have h4 := F41.out a ha
                      rw [ha] at e
                      cases e
                      rcases hg6 with e1 | e1
                      · have e2 : Y3.heap.size = g6 := (by simpa [Value.ownBlock] using e1)
                        rw [← e2]; exact h4
                      · rw [e1]; exact Nat.ne_of_lt hlt
                    have HI4 := hid (HI4.out.kept (fun a ha _ hlt => hk _ hlt (by intro e; have e2 : a.block = Y3.heap.size := (by simpa [Value.ownBlock] using e); exact F41.out a ha e2)))
                    replace hBN := hBN.trans hb
                    replace o10 := (show OwnRef Y6 M _ [C0] from row_block o10 (fun u hu => hk u (World.ownsRow.lt o10 u hu).2 (by intro e; have e1 : wm.heap.size = u := (by simpa [Value.ownBlock] using hu); have e2 : u = Y3.heap.size := (by simpa [Value.ownBlock] using e); have e3 := HNE.out; omega)))
                    clear o4 hszp hg6
                    refine hK.out _ _ (⟨hS.1.far HLW.out HCW.out hb HM2.out, hS.2.far HBQ.out hb⟩) (fun hS => ?_)
                    clear hK K
                    try simp only [Act.put, List.getElem_toArray, List.getElem_cons_zero, List.getElem_cons_succ, List.setIfInBounds_toArray, List.set_cons_zero, List.set_cons_succ]
                    refine wpAnyH_ready (rs := [11]) (by kernel_rfl) (by simp) ?_
                    refine AllReadyH.cons (o := _) rfl (fun K hK => ?_) AllReadyH.nil
                    have hszp : M ≤ Y6.heap.size := by rw [← HMM.out]; exact hBN.size
                    have hsrc : CntsAt Y6 (some ⟨wm.heap.size, 0, none⟩) 1 [C0] := by
                      obtain ⟨p7, c9, e7, h7⟩ := o10.slice
                      cases e7
                      exact h7
                    refine step_append_ref (by rfl) (.tmp 140) (.tmp 144) (by rfl) M _ C (some ⟨wm.heap.size, 0, none⟩) 1 1 [C0] o6 (by rfl) (by rfl) hsrc (by have := HC5.out; omega) (by decide) hszp ?_
                    intro v11 Y11 o11 hb hk
                    have HI4 := hid (HI4.out.kept (fun a ha _ hlt => hk _ hlt (by intro e; have e2 : a.block = g6 := (by simpa [Value.ownBlock] using e); exact F61.out a ha e2)))
                    replace hBN := hBN.trans hb
                    rw [HCE.out] at o11
                    obtain ⟨q11, d11, rfl, hc11⟩ := o11.slice
                    have HC11 := hid hc11
                    clear o10 o6 o11 hc11 hsrc hszp
                    refine hK.out _ _ (⟨hS.1.far HLW.out HCW.out hb HM2.out, hS.2.far HBQ.out hb⟩) (fun hS => ?_)
                    clear hK K
                    try simp only [Act.put, List.getElem_toArray, List.getElem_cons_zero, List.getElem_cons_succ, List.setIfInBounds_toArray, List.set_cons_zero, List.set_cons_succ]
                    refine wpAnyH_ready (rs := [12]) (by kernel_rfl) (by simp) ?_
                    refine AllReadyH.cons (o := _) rfl (fun K hK => ?_) AllReadyH.nil
                    go_simp
                    have hszp : M ≤ Y11.heap.size := by rw [← HMM.out]; exact hBN.size
                    refine (countsX_any q11 C'.length d11 C' _ HC11.out (by have := HCL.out; omega)).mono ?_
                    rintro e Y12 ⟨v5, rfl, ho5, hb5⟩
                    obtain ⟨q12, d12, rfl, hc12⟩ := ho5.slice
                    have HC12 := hid hc12; have HI4 := hid (HI4.out.below hb5)
                    clear hc12 ho5 hszp
                    refine hK.out _ _ (⟨hS.1.step hb5, hS.2.below hb5⟩) (fun hS => ?_)
                    clear hK K
                    try simp only [List.setIfInBounds_toArray, List.set_cons_zero, List.set_cons_succ]
                    refine wpAnyH_ready (rs := [13]) (by kernel_rfl) (by simp) ?_
                    refine AllReadyH.cons (o := _) rfl (fun K hK => ?_) AllReadyH.nil
                    go_simp
                    have hFo := Foreign_any r cc p4 n c4 l seed stp draws q12 C'.length d12 C' _ HI4.out (by have := HN.out; omega) HC12.out (by have := HCL.out; omega)
                    rw [HFV3.out.1, HFV3.out.2] at hFo
                    refine hFo.mono ?_
                    clear hFo
                    rintro e Y13 ⟨v6, rfl, ho6, hb6⟩
                    obtain ⟨py, cy, rfl, hiy⟩ := ho6.slice
                    have HIY := hid hiy
                    clear ho6 hiy
                    refine hK.out _ _ (⟨hS.1.step hb6, hS.2.below hb6⟩) (fun hS => ?_)
                    clear hK K
                    try simp only [List.setIfInBounds_toArray, List.set_cons_zero, List.set_cons_succ]
                    refine wpAnyH_take (i := 14) (v := ?_) rfl (by kernel_rfl) (by kernel_rfl) (by kernel_rfl) (fun _ _ _ h => h) (Or.inl ⟨by rfl, fun V hV => ?_⟩) (by assumption) ?_
                    rotate_left
                    · go_simp
                      try with_reducible rfl
                    try simp only [Act.put, List.getElem_toArray, List.getElem_cons_zero, List.getElem_cons_succ, List.setIfInBounds_toArray, List.set_cons_zero, List.set_cons_succ]
                    refine wpAnyH_take (i := 15) (v := ?_) rfl (by kernel_rfl) (by kernel_rfl) (by kernel_rfl) (fun _ _ _ h => h) (Or.inl ⟨by rfl, fun V hV => ?_⟩) (by assumption) ?_
                    rotate_left
                    · go_simp
                      try with_reducible rfl
                    try simp only [Act.put, List.getElem_toArray, List.getElem_cons_zero, List.getElem_cons_succ, List.setIfInBounds_toArray, List.set_cons_zero, List.set_cons_succ]
                    refine wpAnyH_take (i := 16) (v := ?_) rfl (by kernel_rfl) (by kernel_rfl) (by kernel_rfl) (fun _ _ _ h => h) (Or.inl ⟨by rfl, fun V hV => ?_⟩) (by assumption) ?_
                    rotate_left
                    · go_simp
                      try with_reducible rfl
                    try simp only [Act.put, List.getElem_toArray, List.getElem_cons_zero, List.getElem_cons_succ, List.setIfInBounds_toArray, List.set_cons_zero, List.set_cons_succ]
                    refine wpAnyH_take (i := 17) (v := ?_) rfl (by kernel_rfl) (by kernel_rfl) (by kernel_rfl) (fun _ _ _ h => h) (Or.inl ⟨by rfl, fun V hV => ?_⟩) (by assumption) ?_
                    rotate_left
                    · go_simp
                      try with_reducible rfl
                    try simp only [Act.put, List.getElem_toArray, List.getElem_cons_zero, List.getElem_cons_succ, List.setIfInBounds_toArray, List.set_cons_zero, List.set_cons_succ]
                    refine wpAnyH_take (i := 18) (v := ?_) rfl (by kernel_rfl) (by kernel_rfl) (by kernel_rfl) (fun _ _ _ h => h) (Or.inl ⟨by rfl, fun V hV => ?_⟩) (by assumption) ?_
                    rotate_left
                    · go_simp
                      try with_reducible rfl
                    try simp only [Act.put, List.getElem_toArray, List.getElem_cons_zero, List.getElem_cons_succ, List.setIfInBounds_toArray, List.set_cons_zero, List.set_cons_succ]
                    refine wpAnyH_done (by kernel_rfl) ?_ _
                    have HSZ := hid hS.1
                    clear hS
                    go_wp2
                    go_meet
                    case rel => exact ⟨py, _, rfl, rfl, HIY.out, HSZ.out⟩
                  refine AllReadyH.cons (o := _) rfl (fun K hK => ?_) AllReadyH.nil
                  have hszp : M ≤ Y1.heap.size := by rw [← HMM.out]; exact hBN.size
                  have F41 : Hid (∀ a, p4 = some a → a.block ≠ Y1.heap.size) := by
                    intro a ha
                    obtain ⟨b, o, e, hlt, _⟩ := HI4.out.at (i := 0) (by have := HN.out; omega)
                    rw [ha] at e
                    cases e
                    exact Nat.ne_of_lt hlt
                  have HNE : Hid (wm.heap.size ≠ Y1.heap.size) := Nat.ne_of_lt (World.ownsRow.lt o10 _ rfl).2
                  obtain ⟨Y4, hY4⟩ : ∃ V, (Y1).alloc (.cells #[] 59) = V := ⟨_, rfl⟩
                  have hb : Below (Y1).heap.size (Y1) Y4 := by rw [← hY4]; exact (Below.refl _ _).alloc (Nat.le_refl _) _
                  replace hBN := hBN.trans (hb.mono hszp)
                  have HI4 := hid (HI4.out.below hb)
                  replace o10 := o10.below hb
                  have o4 : OwnRef Y4 M (.slice (some ⟨Y1.heap.size, 0, none⟩) 0 0) [] := by rw [← hY4]; exact ownRef_nil _ hszp
                  go_simp
                  clear hszp
                  refine hK.out _ _ (⟨hS.1.step hb, hS.2.below hb⟩) (fun hS => ?_)
                  clear hK K
                  try simp only [List.setIfInBounds_toArray, List.set_cons_zero, List.set_cons_succ]
                  refine wpAnyH_ready (rs := [3]) (by kernel_rfl) (by simp) ?_
                  refine AllReadyH.cons (o := _) rfl (fun K hK => ?_) AllReadyH.nil
                  go_simp
                  have hszp : M ≤ Y4.heap.size := by rw [← HMM.out]; exact hBN.size
                  refine (lotX_any seed stp draws _).mono ?_
                  rintro e Y3 ⟨rfl, hb3⟩
                  replace hBN := hBN.trans (hb3.mono hszp)
                  have HI4 := hid (HI4.out.below hb3)
                  replace o4 := o4.below hb3
                  replace o10 := o10.below hb3
                  clear hszp
                  refine hK.out _ _ (⟨hS.1.step hb3, hS.2.below hb3⟩) (fun hS => ?_)
                  clear hK K
                  try simp only [List.setIfInBounds_toArray, List.set_cons_zero, List.set_cons_succ]
                  refine wpAnyH_ready (rs := [6]) (by kernel_rfl) (by simp) ?_
                  refine AllReadyH.cons (o := _) rfl (fun K hK => ?_) AllReadyH.nil
                  have hszp : M ≤ Y3.heap.size := by rw [← HMM.out]; exact hBN.size
                  refine step_append_ref1 (by rfl) (.tmp 138) (.tmp 139) (by rfl) M _ (some ⟨bq, oq, none⟩) C.length d5 C o4 (by rfl) (by rfl) hS.2 HC5.out.1 (by have := HC5.out; omega) hszp ?_
                  intro g6 c6 Y6 o6 hb hk hg6
                  have F61 : Hid (∀ a, p4 = some a → a.block ≠ g6) := by
                    intro a ha
                    obtain ⟨b, o, e, hlt, _⟩ := HI4.out.at (i := 0) (by have := HN.out; omega)
                    have h4 := F41.out a ha
                    rw [ha] at e
                    cases e
                    rcases hg6 with e1 | e1
                    · have e2 : Y1.heap.size = g6 := (by simpa [Value.ownBlock] using e1)
                      rw [← e2]; exact h4
                    · rw [e1]; exact Nat.ne_of_lt hlt
                  have HI4 := hid (HI4.out.kept (fun a ha _ hlt => hk _ hlt (by intro e; have e2 : a.block = Y1.heap.size := (by simpa [Value.ownBlock] using e); exact F41.out a ha e2)))
                  replace hBN := hBN.trans hb
                  replace o10 := (show OwnRef Y6 M _ [C0] from row_block o10 (fun u hu => hk u (World.ownsRow.lt o10 u hu).2 (by intro e; have e1 : wm.heap.size = u := (by simpa [Value.ownBlock] using hu); have e2 : u = Y1.heap.size := (by simpa [Value.ownBlock] using e); have e3 := HNE.out; omega)))
                  clear o4 hszp hg6
                  refine hK.out _ _ (⟨hS.1.far HLW.out HCW.out hb HM2.out, hS.2.far HBQ.out hb⟩) (fun hS => ?_)
                  clear hK K
                  try simp only [Act.put, List.getElem_toArray, List.getElem_cons_zero, List.getElem_cons_succ, List.setIfInBounds_toArray, List.set_cons_zero, List.set_cons_succ]
                  refine wpAnyH_ready (rs := [11]) (by kernel_rfl) (by simp) ?_
                  refine AllReadyH.cons (o := _) rfl (fun K hK => ?_) AllReadyH.nil
                  have hszp : M ≤ Y6.heap.size := by rw [← HMM.out]; exact hBN.size
                  have hsrc : CntsAt Y6 (some ⟨wm.heap.size, 0, none⟩) 1 [C0] := by
                    obtain ⟨p7, c9, e7, h7⟩ := o10.slice
                    cases e7
                    exact h7
                  refine step_append_ref (by rfl) (.tmp 140) (.tmp 144) (by rfl) M _ C (some ⟨wm.heap.size, 0, none⟩) 1 1 [C0] o6 (by rfl) (by rfl) hsrc (by have := HC5.out; omega) (by decide) hszp ?_
                  intro v11 Y11 o11 hb hk
                  have HI4 := hid (HI4.out.kept (fun a ha _ hlt => hk _ hlt (by intro e; have e2 : a.block = g6 := (by simpa [Value.ownBlock] using e); exact F61.out a ha e2)))
                  replace hBN := hBN.trans hb
                  rw [HCE.out] at o11
                  obtain ⟨q11, d11, rfl, hc11⟩ := o11.slice
                  have HC11 := hid hc11
                  clear o10 o6 o11 hc11 hsrc hszp
                  refine hK.out _ _ (⟨hS.1.far HLW.out HCW.out hb HM2.out, hS.2.far HBQ.out hb⟩) (fun hS => ?_)
                  clear hK K
                  try simp only [Act.put, List.getElem_toArray, List.getElem_cons_zero, List.getElem_cons_succ, List.setIfInBounds_toArray, List.set_cons_zero, List.set_cons_succ]
                  refine wpAnyH_ready (rs := [12]) (by kernel_rfl) (by simp) ?_
                  refine AllReadyH.cons (o := _) rfl (fun K hK => ?_) AllReadyH.nil
                  go_simp
                  have hszp : M ≤ Y11.heap.size := by rw [← HMM.out]; exact hBN.size
                  refine (countsX_any q11 C'.length d11 C' _ HC11.out (by have := HCL.out; omega)).mono ?_
                  rintro e Y12 ⟨v5, rfl, ho5, hb5⟩
                  obtain ⟨q12, d12, rfl, hc12⟩ := ho5.slice
                  have HC12 := hid hc12; have HI4 := hid (HI4.out.below hb5)
                  clear hc12 ho5 hszp
                  refine hK.out _ _ (⟨hS.1.step hb5, hS.2.below hb5⟩) (fun hS => ?_)
                  clear hK K
                  try simp only [List.setIfInBounds_toArray, List.set_cons_zero, List.set_cons_succ]
                  refine wpAnyH_ready (rs := [13]) (by kernel_rfl) (by simp) ?_
                  refine AllReadyH.cons (o := _) rfl (fun K hK => ?_) AllReadyH.nil
                  go_simp
                  have hFo := Foreign_any r cc p4 n c4 l seed stp draws q12 C'.length d12 C' _ HI4.out (by have := HN.out; omega) HC12.out (by have := HCL.out; omega)
                  rw [HFV3.out.1, HFV3.out.2] at hFo
                  refine hFo.mono ?_
                  clear hFo
                  rintro e Y13 ⟨v6, rfl, ho6, hb6⟩
                  obtain ⟨py, cy, rfl, hiy⟩ := ho6.slice
                  have HIY := hid hiy
                  clear ho6 hiy
                  refine hK.out _ _ (⟨hS.1.step hb6, hS.2.below hb6⟩) (fun hS => ?_)
                  clear hK K
                  try simp only [List.setIfInBounds_toArray, List.set_cons_zero, List.set_cons_succ]
                  refine wpAnyH_take (i := 14) (v := ?_) rfl (by kernel_rfl) (by kernel_rfl) (by kernel_rfl) (fun _ _ _ h => h) (Or.inl ⟨by rfl, fun V hV => ?_⟩) (by assumption) ?_
                  rotate_left
                  · go_simp
                    try with_reducible rfl
                  try simp only [Act.put, List.getElem_toArray, List.getElem_cons_zero, List.getElem_cons_succ, List.setIfInBounds_toArray, List.set_cons_zero, List.set_cons_succ]
                  refine wpAnyH_take (i := 15) (v := ?_) rfl (by kernel_rfl) (by kernel_rfl) (by kernel_rfl) (fun _ _ _ h => h) (Or.inl ⟨by rfl, fun V hV => ?_⟩) (by assumption) ?_
                  rotate_left
                  · go_simp
                    try with_reducible rfl
                  try simp only [Act.put, List.getElem_toArray, List.getElem_cons_zero, List.getElem_cons_succ, List.setIfInBounds_toArray, List.set_cons_zero, List.set_cons_succ]
                  refine wpAnyH_take (i := 16) (v := ?_) rfl (by kernel_rfl) (by kernel_rfl) (by kernel_rfl) (fun _ _ _ h => h) (Or.inl ⟨by rfl, fun V hV => ?_⟩) (by assumption) ?_
                  rotate_left
                  · go_simp
                    try with_reducible rfl
                  try simp only [Act.put, List.getElem_toArray, List.getElem_cons_zero, List.getElem_cons_succ, List.setIfInBounds_toArray, List.set_cons_zero, List.set_cons_succ]
                  refine wpAnyH_take (i := 17) (v := ?_) rfl (by kernel_rfl) (by kernel_rfl) (by kernel_rfl) (fun _ _ _ h => h) (Or.inl ⟨by rfl, fun V hV => ?_⟩) (by assumption) ?_
                  rotate_left
                  · go_simp
                    try with_reducible rfl
                  try simp only [Act.put, List.getElem_toArray, List.getElem_cons_zero, List.getElem_cons_succ, List.setIfInBounds_toArray, List.set_cons_zero, List.set_cons_succ]
                  refine wpAnyH_take (i := 18) (v := ?_) rfl (by kernel_rfl) (by kernel_rfl) (by kernel_rfl) (fun _ _ _ h => h) (Or.inl ⟨by rfl, fun V hV => ?_⟩) (by assumption) ?_
                  rotate_left
                  · go_simp
                    try with_reducible rfl
                  try simp only [Act.put, List.getElem_toArray, List.getElem_cons_zero, List.getElem_cons_succ, List.setIfInBounds_toArray, List.set_cons_zero, List.set_cons_succ]
                  refine wpAnyH_done (by kernel_rfl) ?_ _
                  have HSZ := hid hS.1
                  clear hS
                  go_wp2
                  go_meet
                  case rel => exact ⟨py, _, rfl, rfl, HIY.out, HSZ.out⟩
                refine AllReadyH.cons (o := _) rfl (fun K hK => ?_) AllReadyH.nil
                have hszp : M ≤ Y10.heap.size := by rw [← HMM.out]; exact hBN.size
                have HNE : Hid (wm.heap.size ≠ Y10.heap.size) := Nat.ne_of_lt (World.ownsRow.lt o10 _ rfl).2
                obtain ⟨Y4, hY4⟩ : ∃ V, (Y10).alloc (.cells #[] 59) = V := ⟨_, rfl⟩
                have hb : Below (Y10).heap.size (Y10) Y4 := by rw [← hY4]; exact (Below.refl _ _).alloc (Nat.le_refl _) _
                replace hBN := hBN.trans (hb.mono hszp)
                replace o10 := o10.below hb
                have o4 : OwnRef Y4 M (.slice (some ⟨Y10.heap.size, 0, none⟩) 0 0) [] := by rw [← hY4]; exact ownRef_nil _ hszp
                go_simp
                clear hszp
                refine hK.out _ _ (⟨hS.1.step hb, hS.2.below hb⟩) (fun hS => ?_)
                clear hK K
                try simp only [List.setIfInBounds_toArray, List.set_cons_zero, List.set_cons_succ]
                refine wpAnyH_ready (rs := [1]) (by kernel_rfl) (by simp) ?_
                refine AllReadyH.cons (o := _) rfl (fun K hK => ?_) AllReadyH.nil
                go_simp
                have hszp : M ≤ Y4.heap.size := by rw [← HMM.out]; exact hBN.size
                have hl4 : Y10.heap.size < Y4.heap.size := (World.ownsRow.lt o4 _ rfl).2
                refine (fieldX_any r cc p n c l _ hS.1.ints (by have := HN.out; omega)).mono ?_
                rintro e Y1 ⟨p4, c4, rfl, hi1, hb1, hp4⟩
                have F41 : Hid (∀ a, p4 = some a → a.block ≠ Y10.heap.size) := by
                  intro a ha
                  have h1 : Y4.heap.size + 2 ≤ a.block := hp4 a ha
                  omega
                clear hl4
                replace hBN := hBN.trans (hb1.mono hszp)
                replace o4 := o4.below hb1
                replace o10 := o10.below hb1
                have HI4 := hid hi1
                clear hi1 hszp hp4
                refine hK.out _ _ (⟨hS.1.step hb1, hS.2.below hb1⟩) (fun hS => ?_)
                clear hK K
                try simp only [List.setIfInBounds_toArray, List.set_cons_zero, List.set_cons_succ]
                refine wpAnyH_ready (rs := [3]) (by kernel_rfl) (by simp) ?_
                refine AllReadyH.cons (o := _) rfl (fun K hK => ?_) AllReadyH.nil
                go_simp
                have hszp : M ≤ Y1.heap.size := by rw [← HMM.out]; exact hBN.size
                refine (lotX_any seed stp draws _).mono ?_
                rintro e Y3 ⟨rfl, hb3⟩
                replace hBN := hBN.trans (hb3.mono hszp)
                have HI4 := hid (HI4.out.below hb3)
                replace o4 := o4.below hb3
                replace o10 := o10.below hb3
                clear hszp
                refine hK.out _ _ (⟨hS.1.step hb3, hS.2.below hb3⟩) (fun hS => ?_)
                clear hK K
                try simp only [List.setIfInBounds_toArray, List.set_cons_zero, List.set_cons_succ]
                refine wpAnyH_ready (rs := [6]) (by kernel_rfl) (by simp) ?_
                refine AllReadyH.cons (o := _) rfl (fun K hK => ?_) AllReadyH.nil
                have hszp : M ≤ Y3.heap.size := by rw [← HMM.out]; exact hBN.size
                refine step_append_ref1 (by rfl) (.tmp 138) (.tmp 139) (by rfl) M _ (some ⟨bq, oq, none⟩) C.length d5 C o4 (by rfl) (by rfl) hS.2 HC5.out.1 (by have := HC5.out; omega) hszp ?_
                intro g6 c6 Y6 o6 hb hk hg6
                have F61 : Hid (∀ a, p4 = some a → a.block ≠ g6) := by
                  intro a ha
                  obtain ⟨b, o, e, hlt, _⟩ := HI4.out.at (i := 0) (by have := HN.out; omega)
                  have h4 := F41.out a ha
                  rw [ha] at e
                  cases e
                  rcases hg6 with e1 | e1
                  · have e2 : Y10.heap.size = g6 := (by simpa [Value.ownBlock] using e1)
                    rw [← e2]; exact h4
                  · rw [e1]; exact Nat.ne_of_lt hlt
                have HI4 := hid (HI4.out.kept (fun a ha _ hlt => hk _ hlt (by intro e; have e2 : a.block = Y10.heap.size := (by simpa [Value.ownBlock] using e); exact F41.out a ha e2)))
                replace hBN := hBN.trans hb
                replace o10 := (show OwnRef Y6 M _ [C0] from row_block o10 (fun u hu => hk u (World.ownsRow.lt o10 u hu).2 (by intro e; have e1 : wm.heap.size = u := (by simpa [Value.ownBlock] using hu); have e2 : u = Y10.heap.size := (by simpa [Value.ownBlock] using e); have e3 := HNE.out; omega)))
                clear o4 hszp hg6
                refine hK.out _ _ (⟨hS.1.far HLW.out HCW.out hb HM2.out, hS.2.far HBQ.out hb⟩) (fun hS => ?_)
                clear hK K
                try simp only [Act.put, List.getElem_toArray, List.getElem_cons_zero, List.getElem_cons_succ, List.setIfInBounds_toArray, List.set_cons_zero, List.set_cons_succ]
                refine wpAnyH_ready (rs := [11]) (by kernel_rfl) (by simp) ?_
                refine AllReadyH.cons (o := _) rfl (fun K hK => ?_) AllReadyH.nil
                have hszp : M ≤ Y6.heap.size := by rw [← HMM.out]; exact hBN.size
                have hsrc : CntsAt Y6 (some ⟨wm.heap.size, 0, none⟩) 1 [C0] := by
                  obtain ⟨p7, c9, e7, h7⟩ := o10.slice
                  cases e7
                  exact h7
                refine step_append_ref (by rfl) (.tmp 140) (.tmp 144) (by rfl) M _ C (some ⟨wm.heap.size, 0, none⟩) 1 1 [C0] o6 (by rfl) (by rfl) hsrc (by have := HC5.out; omega) (by decide) hszp ?_
                intro v11 Y11 o11 hb hk
                have HI4 := hid (HI4.out.kept (fun a ha _ hlt => hk _ hlt (by intro e; have e2 : a.block = g6 := (by simpa [Value.ownBlock] using e); exact F61.out a ha e2)))
                replace hBN := hBN.trans hb
                rw [HCE.out] at o11
                obtain ⟨q11, d11, rfl, hc11⟩ := o11.slice
                have HC11 := hid hc11
                clear o10 o6 o11 hc11 hsrc hszp
                refine hK.out _ _ (⟨hS.1.far HLW.out HCW.out hb HM2.out, hS.2.far HBQ.out hb⟩) (fun hS => ?_)
                clear hK K
                try simp only [Act.put, List.getElem_toArray, List.getElem_cons_zero, List.getElem_cons_succ, List.setIfInBounds_toArray, List.set_cons_zero, List.set_cons_succ]
                refine wpAnyH_ready (rs := [12]) (by kernel_rfl) (by simp) ?_
                refine AllReadyH.cons (o := _) rfl (fun K hK => ?_) AllReadyH.nil
                go_simp
                have hszp : M ≤ Y11.heap.size := by rw [← HMM.out]; exact hBN.size
                refine (countsX_any q11 C'.length d11 C' _ HC11.out (by have := HCL.out; omega)).mono ?_
                rintro e Y12 ⟨v5, rfl, ho5, hb5⟩
                obtain ⟨q12, d12, rfl, hc12⟩ := ho5.slice
                have HC12 := hid hc12; have HI4 := hid (HI4.out.below hb5)
                clear hc12 ho5 hszp
                refine hK.out _ _ (⟨hS.1.step hb5, hS.2.below hb5⟩) (fun hS => ?_)
                clear hK K
                try simp only [List.setIfInBounds_toArray, List.set_cons_zero, List.set_cons_succ]
                refine wpAnyH_ready (rs := [13]) (by kernel_rfl) (by simp) ?_
                refine AllReadyH.cons (o := _) rfl (fun K hK => ?_) AllReadyH.nil
                go_simp
                have hFo := Foreign_any r cc p4 n c4 l seed stp draws q12 C'.length d12 C' _ HI4.out (by have := HN.out; omega) HC12.out (by have := HCL.out; omega)
                rw [HFV3.out.1, HFV3.out.2] at hFo
                refine hFo.mono ?_
                clear hFo
                rintro e Y13 ⟨v6, rfl, ho6, hb6⟩
                obtain ⟨py, cy, rfl, hiy⟩ := ho6.slice
                have HIY := hid hiy
                clear ho6 hiy
                refine hK.out _ _ (⟨hS.1.step hb6, hS.2.below hb6⟩) (fun hS => ?_)
                clear hK K
                try simp only [List.setIfInBounds_toArray, List.set_cons_zero, List.set_cons_succ]
                refine wpAnyH_take (i := 14) (v := ?_) rfl (by kernel_rfl) (by kernel_rfl) (by kernel_rfl) (fun _ _ _ h => h) (Or.inl ⟨by rfl, fun V hV => ?_⟩) (by assumption) ?_
                rotate_left
                · go_simp
                  try with_reducible rfl
                try simp only [Act.put, List.getElem_toArray, List.getElem_cons_zero, List.getElem_cons_succ, List.setIfInBounds_toArray, List.set_cons_zero, List.set_cons_succ]
                refine wpAnyH_take (i := 15) (v := ?_) rfl (by kernel_rfl) (by kernel_rfl) (by kernel_rfl) (fun _ _ _ h => h) (Or.inl ⟨by rfl, fun V hV => ?_⟩) (by assumption) ?_
                rotate_left
                · go_simp
                  try with_reducible rfl
                try simp only [Act.put, List.getElem_toArray, List.getElem_cons_zero, List.getElem_cons_succ, List.setIfInBounds_toArray, List.set_cons_zero, List.set_cons_succ]
                refine wpAnyH_take (i := 16) (v := ?_) rfl (by kernel_rfl) (by kernel_rfl) (by kernel_rfl) (fun _ _ _ h => h) (Or.inl ⟨by rfl, fun V hV => ?_⟩) (by assumption) ?_
                rotate_left
                · go_simp
                  try with_reducible rfl
                try simp only [Act.put, List.getElem_toArray, List.getElem_cons_zero, List.getElem_cons_succ, List.setIfInBounds_toArray, List.set_cons_zero, List.set_cons_succ]
                refine wpAnyH_take (i := 17) (v := ?_) rfl (by kernel_rfl) (by kernel_rfl) (by kernel_rfl) (fun _ _ _ h => h) (Or.inl ⟨by rfl, fun V hV => ?_⟩) (by assumption) ?_
                rotate_left
                · go_simp
                  try with_reducible rfl
                try simp only [Act.put, List.getElem_toArray, List.getElem_cons_zero, List.getElem_cons_succ, List.setIfInBounds_toArray, List.set_cons_zero, List.set_cons_succ]
                refine wpAnyH_take (i := 18) (v := ?_) rfl (by kernel_rfl) (by kernel_rfl) (by kernel_rfl) (fun _ _ _ h => h) (Or.inl ⟨by rfl, fun V hV => ?_⟩) (by assumption) ?_
                rotate_left
                · go_simp
                  try with_reducible rfl
                try simp only [Act.put, List.getElem_toArray, List.getElem_cons_zero, List.getElem_cons_succ, List.setIfInBounds_toArray, List.set_cons_zero, List.set_cons_succ]
                refine wpAnyH_done (by kernel_rfl) ?_ _
                have HSZ := hid hS.1
                clear hS
                go_wp2
                go_meet
                case rel => exact ⟨py, _, rfl, rfl, HIY.out, HSZ.out⟩
              case rest =>
                obtain ⟨py, cy, rfl, rfl, hiy, hS⟩ := hcut
                have HIY := hid hiy; have HSZ := hid hS
                clear hiy hS
                go_wp2_with fail
                refine (sameX_any py 1 cy [(C.length : Int)] (some ⟨wc.heap.size, 0, none⟩) 1 1 [(C.length : Int)] _ (HIY.out.alloc _) (lit_ints wc [(C.length : Int)]) (by decide) (by decide)).mono ?_
                rintro e w20 ⟨rfl, hb⟩
                rw [sameB_self]
                have HSF := hid (HSZ.out.step (((Below.refl _ _).alloc (Nat.le_refl _) _).trans (hb.mono (by simp))))
                clear hb
                go_wp2_with fail
                refine (awake_any _).mono ?_
                rintro e w99 ⟨rfl, hb⟩
                go_wp2_with fail
                go_ret
                exact ⟨rfl, HSF.out.below.trans (hb.mono HSF.out.below.size)⟩
  · have hn12i : (12 : Int) < n := by omega
    have hcs0 : CntsAt w none 0 [] := ⟨rfl, fun i c hi => by simp at hi⟩
    have HS1 := hid (LotW.start (r := r) (cc := cc) (c := c) (seed := seed) (stp := stp) (draws := draws) (d := 0) hl hcs0)
    have HLW := hid hl; have HCW := hid hcs0
    clear hl hcs0
    have g0 := HS1.out.c0; have g1 := HS1.out.c1; have g2 := HS1.out.c2; have g3 := HS1.out.c3; have g4 := HS1.out.c4; have g5 := HS1.out.c5
    go_enter Try.func17, Try.ntmps17
    go_wp2_with fail
    refine (awake_any _).mono ?_
    rintro e w99 ⟨rfl, hb⟩
    go_wp2_with fail
    go_ret
    exact ⟨rfl, HS1.out.below.trans (hb.mono HS1.out.below.size)⟩
end Go.Proofs.Ytlicijnaacdceaa
