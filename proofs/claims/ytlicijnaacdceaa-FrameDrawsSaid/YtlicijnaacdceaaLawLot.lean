/- FrameLots returns true for every field, lot and list of counts. No condition. -/
import Derived.Test.YtlicijnaacdceaaPlnL
import Derived.Test.YtlicijnaacdceaaLawAwake
import Derived.Test.YtlicijnaacdceaaLawC
namespace Go.Proofs.Ytlicijnaacdceaa
open Go.RowKit

structure LotW (w : World) (r cc : Int) (p : Option Addr) (n c : Nat) (l : List Int) (seed stp draws : Int) (q : Option Addr) (m d : Nat) (cs : List Cnt) (W : World) : Prop where
  box : Boxed2 w #[.int .i64 r, .int .i64 cc, .slice p n c] 24 #[.int .i64 seed, .int .i64 stp, .int .i64 draws] 84 W
  ints : IntsAt W p n l
  cnts : CntsAt W q m cs

section
variable {w : World} {r cc : Int} {p : Option Addr} {n c : Nat} {l : List Int} {seed stp draws : Int} {q : Option Addr} {m d : Nat} {cs : List Cnt} {W W' : World}
theorem LotW.start (hl : IntsAt w p n l) (hcs : CntsAt w q m cs) : LotW w r cc p n c l seed stp draws q m d cs ((w.alloc (.cells #[.int .i64 r, .int .i64 cc, .slice p n c] 24)).alloc (.cells #[.int .i64 seed, .int .i64 stp, .int .i64 draws] 84)) :=
  ⟨Below.refl _ _, (hl.alloc _).alloc _, (hcs.alloc _).alloc _⟩
theorem LotW.step (h : LotW w r cc p n c l seed stp draws q m d cs W) (hb : Below W.heap.size W W') : LotW w r cc p n c l seed stp draws q m d cs W' :=
  ⟨h.box.step (hb.mono h.box.size), h.ints.below hb, h.cnts.below hb⟩
theorem LotW.below (h : LotW w r cc p n c l seed stp draws q m d cs W) : Below w.heap.size w W := h.box.below
theorem LotW.drewN (h : LotW w r cc p n c l seed stp draws q m d cs W) (k : Nat) : LotW w r cc p n c l seed stp draws q m d cs (W.drewN k) := h.step (below_drewN (Below.refl _ _) k)
theorem LotW.c0 (h : LotW w r cc p n c l seed stp draws q m d cs W) : W.cell? ⟨w.heap.size, 0, none⟩ = some (.int .i64 r) := h.box.cell1 0 rfl
theorem LotW.c1 (h : LotW w r cc p n c l seed stp draws q m d cs W) : W.cell? ⟨w.heap.size, 1, none⟩ = some (.int .i64 cc) := h.box.cell1 1 rfl
theorem LotW.c2 (h : LotW w r cc p n c l seed stp draws q m d cs W) : W.cell? ⟨w.heap.size, 2, none⟩ = some (.slice p n c) := h.box.cell1 2 rfl
theorem LotW.c3 (h : LotW w r cc p n c l seed stp draws q m d cs W) : W.cell? ⟨w.heap.size + 1, 0, none⟩ = some (.int .i64 seed) := h.box.cell2 0 rfl
theorem LotW.c4 (h : LotW w r cc p n c l seed stp draws q m d cs W) : W.cell? ⟨w.heap.size + 1, 1, none⟩ = some (.int .i64 stp) := h.box.cell2 1 rfl
theorem LotW.c5 (h : LotW w r cc p n c l seed stp draws q m d cs W) : W.cell? ⟨w.heap.size + 1, 2, none⟩ = some (.int .i64 draws) := h.box.cell2 2 rfl
end

theorem beforeB_self : ∀ l : List Int, beforeB l l = false
  | [] => rfl
  | a :: l => by rw [beforeB, if_pos rfl, beforeB_self l]
theorem sameB_self (l : List Int) : sameB l l = true := by unfold sameB; rw [beforeB_self]; simp

theorem sameX_any (p : Option Addr) (n c : Nat) (l : List Int) (q : Option Addr) (m d : Nat) (h : List Int) (w : World) (hl : IntsAt w p n l) (hh : IntsAt w q m h) (hn : n ≤ 1000000) (hm : m ≤ 1000000) :
    Calls Try.prog 29 #[.slice p n c, .slice q m d] w fun e w' => e = .returned (.bool (sameB l h)) ∧ Below w.heap.size w w' :=
  (same_any p n c l q m d h w hl hh hn hm).mono fun _ _ ⟨h1, k, h2⟩ => ⟨h1, h2 ▸ below_drewN (Below.refl _ _) k⟩

theorem foreignG_len (drawn : List Int) : ∀ (cs : List Cnt) (i : Int) (bf out : List Int), (foreignG drawn i cs bf out).length ≤ out.length + cs.length
  | [], _, _, _ => by simp [foreignG]
  | c :: r, i, bf, out => by
    rw [foreignG]
    refine Nat.le_trans (foreignG_len drawn r _ _ _) ?_
    split <;> simp <;> omega
theorem foreignL_len {L : Nat} {seed step draws : Int} (cs : List Cnt) : (foreignL L seed step draws cs).length ≤ cs.length := by
  have := foreignG_len (drawL L seed step draws) cs 0 [] []
  simpa [foreignL] using this

set_option maxRecDepth 20000 in
set_option maxHeartbeats 2000000 in
theorem lotX_any (seed stp draws : Int) (w : World) : Calls Try.prog 57 #[.agg #[.int .i64 seed, .int .i64 stp, .int .i64 draws]] w fun e w' => e = .returned (.agg #[.int .i64 seed, .int .i64 stp, .int .i64 draws]) ∧ Below w.heap.size w w' := by
  have hb0 : Below w.heap.size w ((w.alloc (.cells #[.int .i64 seed, .int .i64 stp, .int .i64 draws] 84)).alloc (.cells #[.int .i64 seed, .int .i64 stp, .int .i64 draws] 87)) := ((Below.refl _ _).alloc (Nat.le_refl _) _).alloc (by simp) _
  go_enter Try.func57, Try.ntmps57
  go_wp2
  exact bodyPost_ret (v := .agg #[.int .i64 seed, .int .i64 stp, .int .i64 draws]) (by simp [results, Try.results57, go_sem]) rfl ⟨rfl, hb0⟩

set_option maxRecDepth 40000 in
set_option maxHeartbeats 16000000 in
theorem frameLots_any (r cc : Int) (p : Option Addr) (n c : Nat) (l : List Int) (seed stp draws : Int) (q : Option Addr) (m d : Nat) (cs : List Cnt) (w : World) (hl : IntsAt w p n l) (hcs : CntsAt w q m cs) :
    Calls Try.prog 16 #[.agg #[.int .i64 r, .int .i64 cc, .slice p n c], .agg #[.int .i64 seed, .int .i64 stp, .int .i64 draws], .slice q m d] w fun e w' => e = .returned (.bool true) ∧ Below w.heap.size w w' := by
  obtain ⟨P, hP⟩ : ∃ a, drawV r cc l seed stp draws = a := ⟨_, rfl⟩
  obtain ⟨E, hE⟩ : ∃ a, drawE r cc l seed stp draws = a := ⟨_, rfl⟩
  obtain ⟨X, hX⟩ : ∃ a, foreignV r cc l seed stp draws cs = a := ⟨_, rfl⟩
  obtain ⟨G, hG⟩ : ∃ a, foreignE r cc l seed stp draws cs = a := ⟨_, rfl⟩
  have HP := hid hP; have HE := hid hE; have HX := hid hX; have HG := hid hG
  clear hP hE hX hG
  have HNL : Hid (n = l.length) := hl.1
  have HML : Hid (m = cs.length) := hcs.1
  by_cases ht : (decide (n ≤ 12) && decide (m ≤ 9)) = true
  · have hnm : n ≤ 12 ∧ m ≤ 9 := by simpa using ht
    have HN := hid hnm
    have HT := hid ht
    clear hnm ht
    cases hF : isFieldB r cc l
    · have HFB := hid hF
      have hE1 : E = 1 := by rw [← HE.out, drawE, hF]; rfl
      have hP1 : P = [] := by rw [← HP.out, drawV, HE.out, hE1]; rfl
      have hG1 : G = 1 := by rw [← HG.out, foreignE, HE.out, hE1]; rfl
      have hX1 : X = [] := by rw [← HX.out, foreignV, HG.out, hG1]; rfl
      subst hE1 hP1 hG1 hX1
      clear hF
      have HS1 := hid (LotW.start (r := r) (cc := cc) (c := c) (seed := seed) (stp := stp) (draws := draws) (d := d) hl hcs)
      clear hl hcs
      have g0 := HS1.out.c0; have g1 := HS1.out.c1; have g2 := HS1.out.c2; have g3 := HS1.out.c3; have g4 := HS1.out.c4; have g5 := HS1.out.c5
      go_enter Try.func16, Try.ntmps16
      go_wp2_with fail
      refine (thin_any _ _ _ _ _ _ _ _ _ _).mono ?_
      rintro e w2 ⟨rfl, hb⟩
      have HS2 := hid (HS1.out.step hb)
      rw [show (decide (n ≤ 12) && decide (m ≤ 9)) = true from HT.out]
      clear hb g5 g0 g1 g2 g3 g4
      have g0 := HS2.out.c0; have g1 := HS2.out.c1; have g2 := HS2.out.c2; have g3 := HS2.out.c3; have g4 := HS2.out.c4; have g5 := HS2.out.c5
      clear g0 g1 g2 g3 g4 g5
      go_wp2_with fail
      refine wp_region_held_drew (S := fun V => LotW w r cc p n c l seed stp draws q m d cs V) (by kernel_rfl) (HS2.out.step (Below.refl _ _).drew) (fun hS => ?_)
      simp only [List.size_toArray, List.length_cons, List.length_nil, Nat.reduceAdd, Array.replicate_succ, Array.replicate_zero, List.push_toArray, List.nil_append, List.cons_append]
      refine wpAnyH_take (i := 0) (v := ?_) rfl (by kernel_rfl) (by kernel_rfl) (by kernel_rfl) (fun _ _ _ h => h) (Or.inl ⟨by rfl, fun V hV => ?_⟩) (by assumption) ?_
      rotate_left
      · have g0 := hV.c0; have g1 := hV.c1; have g2 := hV.c2; go_simp
        try with_reducible rfl
      try simp only [Act.put, List.getElem_toArray, List.getElem_cons_zero, List.setIfInBounds_toArray, List.set_cons_zero, List.set_cons_succ]
      refine wpAnyH_take (i := 2) (v := ?_) rfl (by kernel_rfl) (by kernel_rfl) (by kernel_rfl) (fun _ _ _ h => h) (Or.inl ⟨by rfl, fun V hV => ?_⟩) (by assumption) ?_
      rotate_left
      · have g3 := hV.c3; have g4 := hV.c4; have g5 := hV.c5; go_simp
        try with_reducible rfl
      try simp only [Act.put, List.getElem_toArray, List.getElem_cons_zero, List.getElem_cons_succ, List.setIfInBounds_toArray, List.set_cons_zero, List.set_cons_succ]
      refine wpAnyH_ready (rs := [1]) (by kernel_rfl) (by simp) ?_
      refine AllReadyH.cons (o := _) rfl (fun K hK => ?_) AllReadyH.nil
      go_simp
      refine (fieldX_any r cc p n c l _ hS.ints (by have := HN.out; omega)).mono ?_
      rintro e V1 ⟨p1, c1, rfl, hi1, hb1, _⟩
      have HI1 := hid hi1
      clear hi1
      refine hK.out _ _ (hS.step hb1) (fun hS => ?_)
      clear hK K
      try simp only [List.setIfInBounds_toArray, List.set_cons_zero, List.set_cons_succ]
      refine wpAnyH_ready (rs := [3]) (by kernel_rfl) (by simp) ?_
      refine AllReadyH.cons (o := _) rfl (fun K hK => ?_) AllReadyH.nil
      go_simp
      refine (lotX_any seed stp draws _).mono ?_
      rintro e V3 ⟨rfl, hb3⟩
      have HI1 := hid (HI1.out.below hb3)
      refine hK.out _ _ (hS.step hb3) (fun hS => ?_)
      clear hK K
      try simp only [List.setIfInBounds_toArray, List.set_cons_zero, List.set_cons_succ]
      refine wpAnyH_ready (rs := [4]) (by kernel_rfl) (by simp) ?_
      refine AllReadyH.cons (o := _) rfl (fun K hK => ?_) AllReadyH.nil
      go_simp
      have hDr := Draw_any r cc p1 n c1 l seed stp draws _ HI1.out (by have := HN.out; omega)
      rw [HP.out, HE.out] at hDr
      refine hDr.mono ?_
      clear hDr
      rintro e V4 ⟨v4, rfl, ho4, hb4⟩
      obtain ⟨pa, ca, rfl, hia⟩ := ho4.slice
      have HIA := hid hia
      clear hia ho4
      refine hK.out _ _ (hS.step hb4) (fun hS => ?_)
      clear hK K
      try simp only [List.setIfInBounds_toArray, List.set_cons_zero, List.set_cons_succ]
      refine wpAnyH_take (i := 5) (v := ?_) rfl (by kernel_rfl) (by kernel_rfl) (by kernel_rfl) (fun _ _ _ h => h) (Or.inl ⟨by rfl, fun V hV => ?_⟩) (by assumption) ?_
      rotate_left
      · go_simp
        try with_reducible rfl
      try simp only [Act.put, List.getElem_toArray, List.getElem_cons_zero, List.getElem_cons_succ, List.setIfInBounds_toArray, List.set_cons_zero, List.set_cons_succ]
      refine wpAnyH_take (i := 6) (v := ?_) rfl (by kernel_rfl) (by kernel_rfl) (by kernel_rfl) (fun _ _ _ h => h) (Or.inl ⟨by rfl, fun V hV => ?_⟩) (by assumption) ?_
      rotate_left
      · go_simp
        try with_reducible rfl
      try simp only [Act.put, List.getElem_toArray, List.getElem_cons_zero, List.getElem_cons_succ, List.setIfInBounds_toArray, List.set_cons_zero, List.set_cons_succ]
      refine wpAnyH_take (i := 7) (v := ?_) rfl (by kernel_rfl) (by kernel_rfl) (by kernel_rfl) (fun _ _ _ h => h) (Or.inl ⟨by rfl, fun V hV => ?_⟩) (by assumption) ?_
      rotate_left
      · go_simp
        try with_reducible rfl
      try simp only [Act.put, List.getElem_toArray, List.getElem_cons_zero, List.getElem_cons_succ, List.setIfInBounds_toArray, List.set_cons_zero, List.set_cons_succ]
      refine wpAnyH_take (i := 8) (v := ?_) rfl (by kernel_rfl) (by kernel_rfl) (by kernel_rfl) (fun _ _ _ h => h) (Or.inl ⟨by rfl, fun V hV => ?_⟩) (by assumption) ?_
      rotate_left
      · go_simp
        try with_reducible rfl
      try simp only [Act.put, List.getElem_toArray, List.getElem_cons_zero, List.getElem_cons_succ, List.setIfInBounds_toArray, List.set_cons_zero, List.set_cons_succ]
      refine wpAnyH_take (i := 9) (v := ?_) rfl (by kernel_rfl) (by kernel_rfl) (by kernel_rfl) (fun _ _ _ h => h) (Or.inl ⟨by rfl, fun V hV => ?_⟩) (by assumption) ?_
      rotate_left
      · go_simp
        try with_reducible rfl
      try simp only [Act.put, List.getElem_toArray, List.getElem_cons_zero, List.getElem_cons_succ, List.setIfInBounds_toArray, List.set_cons_zero, List.set_cons_succ]
      refine wpAnyH_done (by kernel_rfl) ?_ _
      have HS3 := hid hS
      clear hS
      go_wp2_with fail
      refine wp_region_held_drew (S := fun V => LotW w r cc p n c l seed stp draws q m d cs V) (by kernel_rfl) (HS3.out.step (Below.refl _ _).drew) (fun hS => ?_)
      simp only [List.size_toArray, List.length_cons, List.length_nil, Nat.reduceAdd, Array.replicate_succ, Array.replicate_zero, List.push_toArray, List.nil_append, List.cons_append]
      refine wpAnyH_take (i := 0) (v := ?_) rfl (by kernel_rfl) (by kernel_rfl) (by kernel_rfl) (fun _ _ _ h => h) (Or.inl ⟨by rfl, fun V hV => ?_⟩) (by assumption) ?_
      rotate_left
      · have g0 := hV.c0; have g1 := hV.c1; have g2 := hV.c2; go_simp
        try with_reducible rfl
      try simp only [Act.put, List.getElem_toArray, List.getElem_cons_zero, List.setIfInBounds_toArray, List.set_cons_zero, List.set_cons_succ]
      refine wpAnyH_take (i := 2) (v := ?_) rfl (by kernel_rfl) (by kernel_rfl) (by kernel_rfl) (fun _ _ _ h => h) (Or.inl ⟨by rfl, fun V hV => ?_⟩) (by assumption) ?_
      rotate_left
      · have g3 := hV.c3; have g4 := hV.c4; have g5 := hV.c5; go_simp
        try with_reducible rfl
      try simp only [Act.put, List.getElem_toArray, List.getElem_cons_zero, List.getElem_cons_succ, List.setIfInBounds_toArray, List.set_cons_zero, List.set_cons_succ]
      refine wpAnyH_take (i := 4) (v := ?_) rfl (by kernel_rfl) (by kernel_rfl) (by kernel_rfl) (fun _ _ _ h => h) (Or.inl ⟨by rfl, fun V hV => ?_⟩) (by assumption) ?_
      rotate_left
      · go_simp
        try with_reducible rfl
      try simp only [Act.put, List.getElem_toArray, List.getElem_cons_zero, List.getElem_cons_succ, List.setIfInBounds_toArray, List.set_cons_zero, List.set_cons_succ]
      refine wpAnyH_ready (rs := [1]) (by kernel_rfl) (by simp) ?_
      refine AllReadyH.cons (o := _) rfl (fun K hK => ?_) AllReadyH.nil
      go_simp
      refine (fieldX_any r cc p n c l _ hS.ints (by have := HN.out; omega)).mono ?_
      rintro e U1 ⟨p2, c2, rfl, hi1, hb1, _⟩
      have HI2 := hid hi1
      have HIA := hid (HIA.out.drew.below hb1)
      clear hi1
      refine hK.out _ _ (hS.step hb1) (fun hS => ?_)
      clear hK K
      try simp only [List.setIfInBounds_toArray, List.set_cons_zero, List.set_cons_succ]
      refine wpAnyH_ready (rs := [3]) (by kernel_rfl) (by simp) ?_
      refine AllReadyH.cons (o := _) rfl (fun K hK => ?_) AllReadyH.nil
      go_simp
      refine (lotX_any seed stp draws _).mono ?_
      rintro e U3 ⟨rfl, hb3⟩
      have HI2 := hid (HI2.out.below hb3)
      have HIA := hid (HIA.out.below hb3)
      refine hK.out _ _ (hS.step hb3) (fun hS => ?_)
      clear hK K
      try simp only [List.setIfInBounds_toArray, List.set_cons_zero, List.set_cons_succ]
      refine wpAnyH_ready (rs := [5]) (by kernel_rfl) (by simp) ?_
      refine AllReadyH.cons (o := _) rfl (fun K hK => ?_) AllReadyH.nil
      go_simp
      refine (countsX_any q m d cs _ hS.cnts (by have := HN.out; omega)).mono ?_
      rintro e U5 ⟨v5, rfl, ho5, hb5⟩
      obtain ⟨q5, d5, rfl, hc5⟩ := ho5.slice
      have HC5 := hid hc5
      have HI2 := hid (HI2.out.below hb5)
      have HIA := hid (HIA.out.below hb5)
      clear hc5 ho5
      refine hK.out _ _ (hS.step hb5) (fun hS => ?_)
      clear hK K
      try simp only [List.setIfInBounds_toArray, List.set_cons_zero, List.set_cons_succ]
      refine wpAnyH_ready (rs := [6]) (by kernel_rfl) (by simp) ?_
      refine AllReadyH.cons (o := _) rfl (fun K hK => ?_) AllReadyH.nil
      go_simp
      have hFo := Foreign_any r cc p2 n c2 l seed stp draws q5 _ d5 cs _ HI2.out (by have := HN.out; omega) HC5.out (by have := HC5.out.1; have := HN.out; have := hS.cnts.1; omega)
      rw [HX.out, HG.out] at hFo
      refine hFo.mono ?_
      clear hFo
      rintro e U6 ⟨v6, rfl, ho6, hb6⟩
      obtain ⟨px, cx, rfl, hix⟩ := ho6.slice
      have HIX := hid hix
      have HIA := hid (HIA.out.below hb6)
      clear hix ho6
      refine hK.out _ _ (hS.step hb6) (fun hS => ?_)
      clear hK K
      try simp only [List.setIfInBounds_toArray, List.set_cons_zero, List.set_cons_succ]
      refine wpAnyH_take (i := 7) (v := ?_) rfl (by kernel_rfl) (by kernel_rfl) (by kernel_rfl) (fun _ _ _ h => h) (Or.inl ⟨by rfl, fun V hV => ?_⟩) (by assumption) ?_
      rotate_left
      · go_simp
        try with_reducible rfl
      try simp only [Act.put, List.getElem_toArray, List.getElem_cons_zero, List.getElem_cons_succ, List.setIfInBounds_toArray, List.set_cons_zero, List.set_cons_succ]
      refine wpAnyH_take (i := 8) (v := ?_) rfl (by kernel_rfl) (by kernel_rfl) (by kernel_rfl) (fun _ _ _ h => h) (Or.inl ⟨by rfl, fun V hV => ?_⟩) (by assumption) ?_
      rotate_left
      · go_simp
        try with_reducible rfl
      try simp only [Act.put, List.getElem_toArray, List.getElem_cons_zero, List.getElem_cons_succ, List.setIfInBounds_toArray, List.set_cons_zero, List.set_cons_succ]
      refine wpAnyH_take (i := 9) (v := ?_) rfl (by kernel_rfl) (by kernel_rfl) (by kernel_rfl) (fun _ _ _ h => h) (Or.inl ⟨by rfl, fun V hV => ?_⟩) (by assumption) ?_
      rotate_left
      · go_simp
        try with_reducible rfl
      try simp only [Act.put, List.getElem_toArray, List.getElem_cons_zero, List.getElem_cons_succ, List.setIfInBounds_toArray, List.set_cons_zero, List.set_cons_succ]
      refine wpAnyH_take (i := 10) (v := ?_) rfl (by kernel_rfl) (by kernel_rfl) (by kernel_rfl) (fun _ _ _ h => h) (Or.inl ⟨by rfl, fun V hV => ?_⟩) (by assumption) ?_
      rotate_left
      · go_simp
        try with_reducible rfl
      try simp only [Act.put, List.getElem_toArray, List.getElem_cons_zero, List.getElem_cons_succ, List.setIfInBounds_toArray, List.set_cons_zero, List.set_cons_succ]
      refine wpAnyH_take (i := 11) (v := ?_) rfl (by kernel_rfl) (by kernel_rfl) (by kernel_rfl) (fun _ _ _ h => h) (Or.inl ⟨by rfl, fun V hV => ?_⟩) (by assumption) ?_
      rotate_left
      · go_simp
        try with_reducible rfl
      try simp only [Act.put, List.getElem_toArray, List.getElem_cons_zero, List.getElem_cons_succ, List.setIfInBounds_toArray, List.set_cons_zero, List.set_cons_succ]
      refine wpAnyH_done (by kernel_rfl) ?_ _
      have HS4 := hid hS
      clear hS
      have HIA4 := hid HIA.out; have HIX4 := hid HIX.out
      have g0 := HS4.out.c0; have g1 := HS4.out.c1; have g2 := HS4.out.c2; have g3 := HS4.out.c3; have g4 := HS4.out.c4; have g5 := HS4.out.c5
      go_wp2_with fail
      refine (isField_any r cc p n c l _ HS4.out.ints (by have := HN.out; omega)).mono ?_
      rintro e w5 ⟨rfl, hb⟩
      have HS5 := hid (HS4.out.step hb)
      have HIA5 := hid (HIA4.out.below hb)
      have HIX5 := hid (HIX4.out.below hb)
      rw [HFB.out]
      clear hb g5 g0 g1 g2 g3 g4
      have g0 := HS5.out.c0; have g1 := HS5.out.c1; have g2 := HS5.out.c2; have g3 := HS5.out.c3; have g4 := HS5.out.c4; have g5 := HS5.out.c5
      go_wp2_with fail
      refine (fieldX_any r cc p n c l _ HS5.out.ints (by have := HN.out; omega)).mono ?_
      rintro e w6 ⟨p3, c3, rfl, hi3, hb, _⟩
      have HS6 := hid (HS5.out.step hb)
      have HIA6 := hid (HIA5.out.below hb)
      have HIX6 := hid (HIX5.out.below hb)
      have HI3 := hid hi3
      clear hi3
      clear hb g5 g0 g1 g2 g3 g4
      have g0 := HS6.out.c0; have g1 := HS6.out.c1; have g2 := HS6.out.c2; have g3 := HS6.out.c3; have g4 := HS6.out.c4; have g5 := HS6.out.c5
      go_wp2_with fail
      refine (checkField_any r cc p3 n c3 l _ HI3.out (by have := HN.out; omega)).mono ?_
      rintro e w7 ⟨rfl, hb⟩
      have HS7 := hid (HS6.out.step hb)
      have HIA7 := hid (HIA6.out.below hb)
      have HIX7 := hid (HIX6.out.below hb)
      rw [HFB.out, show errF false = (1 : Int) from rfl]
      clear hb g5 g0 g1 g2 g3 g4
      have g0 := HS7.out.c0; have g1 := HS7.out.c1; have g2 := HS7.out.c2; have g3 := HS7.out.c3; have g4 := HS7.out.c4; have g5 := HS7.out.c5
      go_wp2_with fail
      refine (awake_any _).mono ?_
      rintro e w99 ⟨rfl, hb⟩
      go_wp2_with fail
      go_ret
      exact ⟨rfl, HS7.out.below.trans (hb.mono HS7.out.below.size)⟩
    · have HFB := hid hF
      have HFF := hid (field_facts hF)
      cases hLb : isLotB n seed stp draws
      · have HLB := hid hLb
        have hE1 : E = 2 := by rw [← HE.out, drawE, hF, ← HNL.out, hLb]; rfl
        have hP1 : P = [] := by rw [← HP.out, drawV, HE.out, hE1]; rfl
        have hG1 : G = 2 := by rw [← HG.out, foreignE, HE.out, hE1]; rfl
        have hX1 : X = [] := by rw [← HX.out, foreignV, HG.out, hG1]; rfl
        subst hE1 hP1 hG1 hX1
        clear hF hLb
        have HS1 := hid (LotW.start (r := r) (cc := cc) (c := c) (seed := seed) (stp := stp) (draws := draws) (d := d) hl hcs)
        clear hl hcs
        have g0 := HS1.out.c0; have g1 := HS1.out.c1; have g2 := HS1.out.c2; have g3 := HS1.out.c3; have g4 := HS1.out.c4; have g5 := HS1.out.c5
        go_enter Try.func16, Try.ntmps16
        go_wp2_with fail
        refine (thin_any _ _ _ _ _ _ _ _ _ _).mono ?_
        rintro e w2 ⟨rfl, hb⟩
        have HS2 := hid (HS1.out.step hb)
        rw [show (decide (n ≤ 12) && decide (m ≤ 9)) = true from HT.out]
        clear hb g5 g0 g1 g2 g3 g4
        have g0 := HS2.out.c0; have g1 := HS2.out.c1; have g2 := HS2.out.c2; have g3 := HS2.out.c3; have g4 := HS2.out.c4; have g5 := HS2.out.c5
        clear g0 g1 g2 g3 g4 g5
        go_wp2_with fail
        refine wp_region_held_drew (S := fun V => LotW w r cc p n c l seed stp draws q m d cs V) (by kernel_rfl) (HS2.out.step (Below.refl _ _).drew) (fun hS => ?_)
        simp only [List.size_toArray, List.length_cons, List.length_nil, Nat.reduceAdd, Array.replicate_succ, Array.replicate_zero, List.push_toArray, List.nil_append, List.cons_append]
        refine wpAnyH_take (i := 0) (v := ?_) rfl (by kernel_rfl) (by kernel_rfl) (by kernel_rfl) (fun _ _ _ h => h) (Or.inl ⟨by rfl, fun V hV => ?_⟩) (by assumption) ?_
        rotate_left
        · have g0 := hV.c0; have g1 := hV.c1; have g2 := hV.c2; go_simp
          try with_reducible rfl
        try simp only [Act.put, List.getElem_toArray, List.getElem_cons_zero, List.setIfInBounds_toArray, List.set_cons_zero, List.set_cons_succ]
        refine wpAnyH_take (i := 2) (v := ?_) rfl (by kernel_rfl) (by kernel_rfl) (by kernel_rfl) (fun _ _ _ h => h) (Or.inl ⟨by rfl, fun V hV => ?_⟩) (by assumption) ?_
        rotate_left
        · have g3 := hV.c3; have g4 := hV.c4; have g5 := hV.c5; go_simp
          try with_reducible rfl
        try simp only [Act.put, List.getElem_toArray, List.getElem_cons_zero, List.getElem_cons_succ, List.setIfInBounds_toArray, List.set_cons_zero, List.set_cons_succ]
        refine wpAnyH_ready (rs := [1]) (by kernel_rfl) (by simp) ?_
        refine AllReadyH.cons (o := _) rfl (fun K hK => ?_) AllReadyH.nil
        go_simp
        refine (fieldX_any r cc p n c l _ hS.ints (by have := HN.out; omega)).mono ?_
        rintro e V1 ⟨p1, c1, rfl, hi1, hb1, _⟩
        have HI1 := hid hi1
        clear hi1
        refine hK.out _ _ (hS.step hb1) (fun hS => ?_)
        clear hK K
        try simp only [List.setIfInBounds_toArray, List.set_cons_zero, List.set_cons_succ]
        refine wpAnyH_ready (rs := [3]) (by kernel_rfl) (by simp) ?_
        refine AllReadyH.cons (o := _) rfl (fun K hK => ?_) AllReadyH.nil
        go_simp
        refine (lotX_any seed stp draws _).mono ?_
        rintro e V3 ⟨rfl, hb3⟩
        have HI1 := hid (HI1.out.below hb3)
        refine hK.out _ _ (hS.step hb3) (fun hS => ?_)
        clear hK K
        try simp only [List.setIfInBounds_toArray, List.set_cons_zero, List.set_cons_succ]
        refine wpAnyH_ready (rs := [4]) (by kernel_rfl) (by simp) ?_
        refine AllReadyH.cons (o := _) rfl (fun K hK => ?_) AllReadyH.nil
        go_simp
        have hDr := Draw_any r cc p1 n c1 l seed stp draws _ HI1.out (by have := HN.out; omega)
        rw [HP.out, HE.out] at hDr
        refine hDr.mono ?_
        clear hDr
        rintro e V4 ⟨v4, rfl, ho4, hb4⟩
        obtain ⟨pa, ca, rfl, hia⟩ := ho4.slice
        have HIA := hid hia
        clear hia ho4
        refine hK.out _ _ (hS.step hb4) (fun hS => ?_)
        clear hK K
        try simp only [List.setIfInBounds_toArray, List.set_cons_zero, List.set_cons_succ]
        refine wpAnyH_take (i := 5) (v := ?_) rfl (by kernel_rfl) (by kernel_rfl) (by kernel_rfl) (fun _ _ _ h => h) (Or.inl ⟨by rfl, fun V hV => ?_⟩) (by assumption) ?_
        rotate_left
        · go_simp
          try with_reducible rfl
        try simp only [Act.put, List.getElem_toArray, List.getElem_cons_zero, List.getElem_cons_succ, List.setIfInBounds_toArray, List.set_cons_zero, List.set_cons_succ]
        refine wpAnyH_take (i := 6) (v := ?_) rfl (by kernel_rfl) (by kernel_rfl) (by kernel_rfl) (fun _ _ _ h => h) (Or.inl ⟨by rfl, fun V hV => ?_⟩) (by assumption) ?_
        rotate_left
        · go_simp
          try with_reducible rfl
        try simp only [Act.put, List.getElem_toArray, List.getElem_cons_zero, List.getElem_cons_succ, List.setIfInBounds_toArray, List.set_cons_zero, List.set_cons_succ]
        refine wpAnyH_take (i := 7) (v := ?_) rfl (by kernel_rfl) (by kernel_rfl) (by kernel_rfl) (fun _ _ _ h => h) (Or.inl ⟨by rfl, fun V hV => ?_⟩) (by assumption) ?_
        rotate_left
        · go_simp
          try with_reducible rfl
        try simp only [Act.put, List.getElem_toArray, List.getElem_cons_zero, List.getElem_cons_succ, List.setIfInBounds_toArray, List.set_cons_zero, List.set_cons_succ]
        refine wpAnyH_take (i := 8) (v := ?_) rfl (by kernel_rfl) (by kernel_rfl) (by kernel_rfl) (fun _ _ _ h => h) (Or.inl ⟨by rfl, fun V hV => ?_⟩) (by assumption) ?_
        rotate_left
        · go_simp
          try with_reducible rfl
        try simp only [Act.put, List.getElem_toArray, List.getElem_cons_zero, List.getElem_cons_succ, List.setIfInBounds_toArray, List.set_cons_zero, List.set_cons_succ]
        refine wpAnyH_take (i := 9) (v := ?_) rfl (by kernel_rfl) (by kernel_rfl) (by kernel_rfl) (fun _ _ _ h => h) (Or.inl ⟨by rfl, fun V hV => ?_⟩) (by assumption) ?_
        rotate_left
        · go_simp
          try with_reducible rfl
        try simp only [Act.put, List.getElem_toArray, List.getElem_cons_zero, List.getElem_cons_succ, List.setIfInBounds_toArray, List.set_cons_zero, List.set_cons_succ]
        refine wpAnyH_done (by kernel_rfl) ?_ _
        have HS3 := hid hS
        clear hS
        go_wp2_with fail
        refine wp_region_held_drew (S := fun V => LotW w r cc p n c l seed stp draws q m d cs V) (by kernel_rfl) (HS3.out.step (Below.refl _ _).drew) (fun hS => ?_)
        simp only [List.size_toArray, List.length_cons, List.length_nil, Nat.reduceAdd, Array.replicate_succ, Array.replicate_zero, List.push_toArray, List.nil_append, List.cons_append]
        refine wpAnyH_take (i := 0) (v := ?_) rfl (by kernel_rfl) (by kernel_rfl) (by kernel_rfl) (fun _ _ _ h => h) (Or.inl ⟨by rfl, fun V hV => ?_⟩) (by assumption) ?_
        rotate_left
        · have g0 := hV.c0; have g1 := hV.c1; have g2 := hV.c2; go_simp
          try with_reducible rfl
        try simp only [Act.put, List.getElem_toArray, List.getElem_cons_zero, List.setIfInBounds_toArray, List.set_cons_zero, List.set_cons_succ]
        refine wpAnyH_take (i := 2) (v := ?_) rfl (by kernel_rfl) (by kernel_rfl) (by kernel_rfl) (fun _ _ _ h => h) (Or.inl ⟨by rfl, fun V hV => ?_⟩) (by assumption) ?_
        rotate_left
        · have g3 := hV.c3; have g4 := hV.c4; have g5 := hV.c5; go_simp
          try with_reducible rfl
        try simp only [Act.put, List.getElem_toArray, List.getElem_cons_zero, List.getElem_cons_succ, List.setIfInBounds_toArray, List.set_cons_zero, List.set_cons_succ]
        refine wpAnyH_take (i := 4) (v := ?_) rfl (by kernel_rfl) (by kernel_rfl) (by kernel_rfl) (fun _ _ _ h => h) (Or.inl ⟨by rfl, fun V hV => ?_⟩) (by assumption) ?_
        rotate_left
        · go_simp
          try with_reducible rfl
        try simp only [Act.put, List.getElem_toArray, List.getElem_cons_zero, List.getElem_cons_succ, List.setIfInBounds_toArray, List.set_cons_zero, List.set_cons_succ]
        refine wpAnyH_ready (rs := [1]) (by kernel_rfl) (by simp) ?_
        refine AllReadyH.cons (o := _) rfl (fun K hK => ?_) AllReadyH.nil
        go_simp
        refine (fieldX_any r cc p n c l _ hS.ints (by have := HN.out; omega)).mono ?_
        rintro e U1 ⟨p2, c2, rfl, hi1, hb1, _⟩
        have HI2 := hid hi1
        have HIA := hid (HIA.out.drew.below hb1)
        clear hi1
        refine hK.out _ _ (hS.step hb1) (fun hS => ?_)
        clear hK K
        try simp only [List.setIfInBounds_toArray, List.set_cons_zero, List.set_cons_succ]
        refine wpAnyH_ready (rs := [3]) (by kernel_rfl) (by simp) ?_
        refine AllReadyH.cons (o := _) rfl (fun K hK => ?_) AllReadyH.nil
        go_simp
        refine (lotX_any seed stp draws _).mono ?_
        rintro e U3 ⟨rfl, hb3⟩
        have HI2 := hid (HI2.out.below hb3)
        have HIA := hid (HIA.out.below hb3)
        refine hK.out _ _ (hS.step hb3) (fun hS => ?_)
        clear hK K
        try simp only [List.setIfInBounds_toArray, List.set_cons_zero, List.set_cons_succ]
        refine wpAnyH_ready (rs := [5]) (by kernel_rfl) (by simp) ?_
        refine AllReadyH.cons (o := _) rfl (fun K hK => ?_) AllReadyH.nil
        go_simp
        refine (countsX_any q m d cs _ hS.cnts (by have := HN.out; omega)).mono ?_
        rintro e U5 ⟨v5, rfl, ho5, hb5⟩
        obtain ⟨q5, d5, rfl, hc5⟩ := ho5.slice
        have HC5 := hid hc5
        have HI2 := hid (HI2.out.below hb5)
        have HIA := hid (HIA.out.below hb5)
        clear hc5 ho5
        refine hK.out _ _ (hS.step hb5) (fun hS => ?_)
        clear hK K
        try simp only [List.setIfInBounds_toArray, List.set_cons_zero, List.set_cons_succ]
        refine wpAnyH_ready (rs := [6]) (by kernel_rfl) (by simp) ?_
        refine AllReadyH.cons (o := _) rfl (fun K hK => ?_) AllReadyH.nil
        go_simp
        have hFo := Foreign_any r cc p2 n c2 l seed stp draws q5 _ d5 cs _ HI2.out (by have := HN.out; omega) HC5.out (by have := HC5.out.1; have := HN.out; have := hS.cnts.1; omega)
        rw [HX.out, HG.out] at hFo
        refine hFo.mono ?_
        clear hFo
        rintro e U6 ⟨v6, rfl, ho6, hb6⟩
        obtain ⟨px, cx, rfl, hix⟩ := ho6.slice
        have HIX := hid hix
        have HIA := hid (HIA.out.below hb6)
        clear hix ho6
        refine hK.out _ _ (hS.step hb6) (fun hS => ?_)
        clear hK K
        try simp only [List.setIfInBounds_toArray, List.set_cons_zero, List.set_cons_succ]
        refine wpAnyH_take (i := 7) (v := ?_) rfl (by kernel_rfl) (by kernel_rfl) (by kernel_rfl) (fun _ _ _ h => h) (Or.inl ⟨by rfl, fun V hV => ?_⟩) (by assumption) ?_
        rotate_left
        · go_simp
          try with_reducible rfl
        try simp only [Act.put, List.getElem_toArray, List.getElem_cons_zero, List.getElem_cons_succ, List.setIfInBounds_toArray, List.set_cons_zero, List.set_cons_succ]
        refine wpAnyH_take (i := 8) (v := ?_) rfl (by kernel_rfl) (by kernel_rfl) (by kernel_rfl) (fun _ _ _ h => h) (Or.inl ⟨by rfl, fun V hV => ?_⟩) (by assumption) ?_
        rotate_left
        · go_simp
          try with_reducible rfl
        try simp only [Act.put, List.getElem_toArray, List.getElem_cons_zero, List.getElem_cons_succ, List.setIfInBounds_toArray, List.set_cons_zero, List.set_cons_succ]
        refine wpAnyH_take (i := 9) (v := ?_) rfl (by kernel_rfl) (by kernel_rfl) (by kernel_rfl) (fun _ _ _ h => h) (Or.inl ⟨by rfl, fun V hV => ?_⟩) (by assumption) ?_
        rotate_left
        · go_simp
          try with_reducible rfl
        try simp only [Act.put, List.getElem_toArray, List.getElem_cons_zero, List.getElem_cons_succ, List.setIfInBounds_toArray, List.set_cons_zero, List.set_cons_succ]
        refine wpAnyH_take (i := 10) (v := ?_) rfl (by kernel_rfl) (by kernel_rfl) (by kernel_rfl) (fun _ _ _ h => h) (Or.inl ⟨by rfl, fun V hV => ?_⟩) (by assumption) ?_
        rotate_left
        · go_simp
          try with_reducible rfl
        try simp only [Act.put, List.getElem_toArray, List.getElem_cons_zero, List.getElem_cons_succ, List.setIfInBounds_toArray, List.set_cons_zero, List.set_cons_succ]
        refine wpAnyH_take (i := 11) (v := ?_) rfl (by kernel_rfl) (by kernel_rfl) (by kernel_rfl) (fun _ _ _ h => h) (Or.inl ⟨by rfl, fun V hV => ?_⟩) (by assumption) ?_
        rotate_left
        · go_simp
          try with_reducible rfl
        try simp only [Act.put, List.getElem_toArray, List.getElem_cons_zero, List.getElem_cons_succ, List.setIfInBounds_toArray, List.set_cons_zero, List.set_cons_succ]
        refine wpAnyH_done (by kernel_rfl) ?_ _
        have HS4 := hid hS
        clear hS
        have HIA4 := hid HIA.out; have HIX4 := hid HIX.out
        have g0 := HS4.out.c0; have g1 := HS4.out.c1; have g2 := HS4.out.c2; have g3 := HS4.out.c3; have g4 := HS4.out.c4; have g5 := HS4.out.c5
        go_wp2_with fail
        refine (isField_any r cc p n c l _ HS4.out.ints (by have := HN.out; omega)).mono ?_
        rintro e w5 ⟨rfl, hb⟩
        have HS5 := hid (HS4.out.step hb)
        have HIA5 := hid (HIA4.out.below hb)
        have HIX5 := hid (HIX4.out.below hb)
        rw [HFB.out]
        clear hb g5 g0 g1 g2 g3 g4
        have g0 := HS5.out.c0; have g1 := HS5.out.c1; have g2 := HS5.out.c2; have g3 := HS5.out.c3; have g4 := HS5.out.c4; have g5 := HS5.out.c5
        go_wp2_with fail
        refine (fieldX_any r cc p n c l _ HS5.out.ints (by have := HN.out; omega)).mono ?_
        rintro e w6 ⟨p3, c3, rfl, hi3, hb, _⟩
        have HS6 := hid (HS5.out.step hb)
        have HIA6 := hid (HIA5.out.below hb)
        have HIX6 := hid (HIX5.out.below hb)
        have HI3 := hid hi3
        clear hi3
        clear hb g5 g0 g1 g2 g3 g4
        have g0 := HS6.out.c0; have g1 := HS6.out.c1; have g2 := HS6.out.c2; have g3 := HS6.out.c3; have g4 := HS6.out.c4; have g5 := HS6.out.c5
        go_wp2_with fail
        refine (checkField_any r cc p3 n c3 l _ HI3.out (by have := HN.out; omega)).mono ?_
        rintro e w7 ⟨rfl, hb⟩
        have HS7 := hid (HS6.out.step hb)
        have HIA7 := hid (HIA6.out.below hb)
        have HIX7 := hid (HIX6.out.below hb)
        rw [HFB.out, show errF true = (0 : Int) from rfl]
        clear hb g5 g0 g1 g2 g3 g4
        have g0 := HS7.out.c0; have g1 := HS7.out.c1; have g2 := HS7.out.c2; have g3 := HS7.out.c3; have g4 := HS7.out.c4; have g5 := HS7.out.c5
        go_wp2_with fail
        refine (isLot_any _ _ _ _ _ _ _ _ _).mono ?_
        rintro e w8 ⟨rfl, hb⟩
        have HS8 := hid (HS7.out.step hb)
        have HIA8 := hid (HIA7.out.below hb)
        have HIX8 := hid (HIX7.out.below hb)
        rw [HLB.out]
        clear hb g5 g0 g1 g2 g3 g4
        have g0 := HS8.out.c0; have g1 := HS8.out.c1; have g2 := HS8.out.c2; have g3 := HS8.out.c3; have g4 := HS8.out.c4; have g5 := HS8.out.c5
        go_wp2_with fail
        refine (awake_any _).mono ?_
        rintro e w99 ⟨rfl, hb⟩
        go_wp2_with fail
        go_ret
        exact ⟨rfl, HS8.out.below.trans (hb.mono HS8.out.below.size)⟩
      · have HLB := hid hLb
        have hE1 : E = 0 := by rw [← HE.out, drawE, hF, ← HNL.out, hLb]; rfl
        have hP1 : P = drawL n seed stp draws := by rw [← HP.out, drawV, HE.out, hE1, if_pos rfl, ← HNL.out]
        subst hE1
        have HP1 := hid hP1
        have hlb : 0 ≤ seed ∧ seed ≤ 9999 ∧ 0 ≤ stp ∧ stp ≤ 9999 ∧ 0 ≤ draws ∧ draws ≤ 6 ∧ draws ≤ n := by
          have h := hLb
          simp only [isLotB, inB, Bool.and_eq_true, decide_eq_true_eq] at h
          omega
        have HLL := hid hlb
        have HPF := hid (drawL_facts (L := n) (seed := seed) (step := stp) (draws := draws) (by have := HFF.out; have := HNL.out; omega) hlb.2.2.2.2.2.2)
        have HPL : Hid (P.length ≤ 9) := by show P.length ≤ 9; rw [hP1, HPF.out.2.2]; omega
        clear hF hLb hP1 hlb
        by_cases h6 : 6 < m
        · have hG1 : G = 3 := by rw [← HG.out, foreignE, HE.out, if_pos rfl, ← HML.out, if_pos h6]
          have hX1 : X = [] := by rw [← HX.out, foreignV, HG.out, hG1]; rfl
          subst hG1 hX1
          have h6i : (6 : Int) < m := by omega
          have HS1 := hid (LotW.start (r := r) (cc := cc) (c := c) (seed := seed) (stp := stp) (draws := draws) (d := d) hl hcs)
          clear hl hcs
          have g0 := HS1.out.c0; have g1 := HS1.out.c1; have g2 := HS1.out.c2; have g3 := HS1.out.c3; have g4 := HS1.out.c4; have g5 := HS1.out.c5
          go_enter Try.func16, Try.ntmps16
          go_wp2_with fail
          refine (thin_any _ _ _ _ _ _ _ _ _ _).mono ?_
          rintro e w2 ⟨rfl, hb⟩
          have HS2 := hid (HS1.out.step hb)
          rw [show (decide (n ≤ 12) && decide (m ≤ 9)) = true from HT.out]
          clear hb g5 g0 g1 g2 g3 g4
          have g0 := HS2.out.c0; have g1 := HS2.out.c1; have g2 := HS2.out.c2; have g3 := HS2.out.c3; have g4 := HS2.out.c4; have g5 := HS2.out.c5
          clear g0 g1 g2 g3 g4 g5
          go_wp2_with fail
          refine wp_region_held_drew (S := fun V => LotW w r cc p n c l seed stp draws q m d cs V) (by kernel_rfl) (HS2.out.step (Below.refl _ _).drew) (fun hS => ?_)
          simp only [List.size_toArray, List.length_cons, List.length_nil, Nat.reduceAdd, Array.replicate_succ, Array.replicate_zero, List.push_toArray, List.nil_append, List.cons_append]
          refine wpAnyH_take (i := 0) (v := ?_) rfl (by kernel_rfl) (by kernel_rfl) (by kernel_rfl) (fun _ _ _ h => h) (Or.inl ⟨by rfl, fun V hV => ?_⟩) (by assumption) ?_
          rotate_left
          · have g0 := hV.c0; have g1 := hV.c1; have g2 := hV.c2; go_simp
            try with_reducible rfl
          try simp only [Act.put, List.getElem_toArray, List.getElem_cons_zero, List.setIfInBounds_toArray, List.set_cons_zero, List.set_cons_succ]
          refine wpAnyH_take (i := 2) (v := ?_) rfl (by kernel_rfl) (by kernel_rfl) (by kernel_rfl) (fun _ _ _ h => h) (Or.inl ⟨by rfl, fun V hV => ?_⟩) (by assumption) ?_
          rotate_left
          · have g3 := hV.c3; have g4 := hV.c4; have g5 := hV.c5; go_simp
            try with_reducible rfl
          try simp only [Act.put, List.getElem_toArray, List.getElem_cons_zero, List.getElem_cons_succ, List.setIfInBounds_toArray, List.set_cons_zero, List.set_cons_succ]
          refine wpAnyH_ready (rs := [1]) (by kernel_rfl) (by simp) ?_
          refine AllReadyH.cons (o := _) rfl (fun K hK => ?_) AllReadyH.nil
          go_simp
          refine (fieldX_any r cc p n c l _ hS.ints (by have := HN.out; omega)).mono ?_
          rintro e V1 ⟨p1, c1, rfl, hi1, hb1, _⟩
          have HI1 := hid hi1
          clear hi1
          refine hK.out _ _ (hS.step hb1) (fun hS => ?_)
          clear hK K
          try simp only [List.setIfInBounds_toArray, List.set_cons_zero, List.set_cons_succ]
          refine wpAnyH_ready (rs := [3]) (by kernel_rfl) (by simp) ?_
          refine AllReadyH.cons (o := _) rfl (fun K hK => ?_) AllReadyH.nil
          go_simp
          refine (lotX_any seed stp draws _).mono ?_
          rintro e V3 ⟨rfl, hb3⟩
          have HI1 := hid (HI1.out.below hb3)
          refine hK.out _ _ (hS.step hb3) (fun hS => ?_)
          clear hK K
          try simp only [List.setIfInBounds_toArray, List.set_cons_zero, List.set_cons_succ]
          refine wpAnyH_ready (rs := [4]) (by kernel_rfl) (by simp) ?_
          refine AllReadyH.cons (o := _) rfl (fun K hK => ?_) AllReadyH.nil
          go_simp
          have hDr := Draw_any r cc p1 n c1 l seed stp draws _ HI1.out (by have := HN.out; omega)
          rw [HP.out, HE.out] at hDr
          refine hDr.mono ?_
          clear hDr
          rintro e V4 ⟨v4, rfl, ho4, hb4⟩
          obtain ⟨pa, ca, rfl, hia⟩ := ho4.slice
          have HIA := hid hia
          clear hia ho4
          refine hK.out _ _ (hS.step hb4) (fun hS => ?_)
          clear hK K
          try simp only [List.setIfInBounds_toArray, List.set_cons_zero, List.set_cons_succ]
          refine wpAnyH_take (i := 5) (v := ?_) rfl (by kernel_rfl) (by kernel_rfl) (by kernel_rfl) (fun _ _ _ h => h) (Or.inl ⟨by rfl, fun V hV => ?_⟩) (by assumption) ?_
          rotate_left
          · go_simp
            try with_reducible rfl
          try simp only [Act.put, List.getElem_toArray, List.getElem_cons_zero, List.getElem_cons_succ, List.setIfInBounds_toArray, List.set_cons_zero, List.set_cons_succ]
          refine wpAnyH_take (i := 6) (v := ?_) rfl (by kernel_rfl) (by kernel_rfl) (by kernel_rfl) (fun _ _ _ h => h) (Or.inl ⟨by rfl, fun V hV => ?_⟩) (by assumption) ?_
          rotate_left
          · go_simp
            try with_reducible rfl
          try simp only [Act.put, List.getElem_toArray, List.getElem_cons_zero, List.getElem_cons_succ, List.setIfInBounds_toArray, List.set_cons_zero, List.set_cons_succ]
          refine wpAnyH_take (i := 7) (v := ?_) rfl (by kernel_rfl) (by kernel_rfl) (by kernel_rfl) (fun _ _ _ h => h) (Or.inl ⟨by rfl, fun V hV => ?_⟩) (by assumption) ?_
          rotate_left
          · go_simp
            try with_reducible rfl
          try simp only [Act.put, List.getElem_toArray, List.getElem_cons_zero, List.getElem_cons_succ, List.setIfInBounds_toArray, List.set_cons_zero, List.set_cons_succ]
          refine wpAnyH_take (i := 8) (v := ?_) rfl (by kernel_rfl) (by kernel_rfl) (by kernel_rfl) (fun _ _ _ h => h) (Or.inl ⟨by rfl, fun V hV => ?_⟩) (by assumption) ?_
          rotate_left
          · go_simp
            try with_reducible rfl
          try simp only [Act.put, List.getElem_toArray, List.getElem_cons_zero, List.getElem_cons_succ, List.setIfInBounds_toArray, List.set_cons_zero, List.set_cons_succ]
          refine wpAnyH_take (i := 9) (v := ?_) rfl (by kernel_rfl) (by kernel_rfl) (by kernel_rfl) (fun _ _ _ h => h) (Or.inl ⟨by rfl, fun V hV => ?_⟩) (by assumption) ?_
          rotate_left
          · go_simp
            try with_reducible rfl
          try simp only [Act.put, List.getElem_toArray, List.getElem_cons_zero, List.getElem_cons_succ, List.setIfInBounds_toArray, List.set_cons_zero, List.set_cons_succ]
          refine wpAnyH_done (by kernel_rfl) ?_ _
          have HS3 := hid hS
          clear hS
          go_wp2_with fail
          refine wp_region_held_drew (S := fun V => LotW w r cc p n c l seed stp draws q m d cs V) (by kernel_rfl) (HS3.out.step (Below.refl _ _).drew) (fun hS => ?_)
          simp only [List.size_toArray, List.length_cons, List.length_nil, Nat.reduceAdd, Array.replicate_succ, Array.replicate_zero, List.push_toArray, List.nil_append, List.cons_append]
          refine wpAnyH_take (i := 0) (v := ?_) rfl (by kernel_rfl) (by kernel_rfl) (by kernel_rfl) (fun _ _ _ h => h) (Or.inl ⟨by rfl, fun V hV => ?_⟩) (by assumption) ?_
          rotate_left
          · have g0 := hV.c0; have g1 := hV.c1; have g2 := hV.c2; go_simp
            try with_reducible rfl
          try simp only [Act.put, List.getElem_toArray, List.getElem_cons_zero, List.setIfInBounds_toArray, List.set_cons_zero, List.set_cons_succ]
          refine wpAnyH_take (i := 2) (v := ?_) rfl (by kernel_rfl) (by kernel_rfl) (by kernel_rfl) (fun _ _ _ h => h) (Or.inl ⟨by rfl, fun V hV => ?_⟩) (by assumption) ?_
          rotate_left
          · have g3 := hV.c3; have g4 := hV.c4; have g5 := hV.c5; go_simp
            try with_reducible rfl
          try simp only [Act.put, List.getElem_toArray, List.getElem_cons_zero, List.getElem_cons_succ, List.setIfInBounds_toArray, List.set_cons_zero, List.set_cons_succ]
          refine wpAnyH_take (i := 4) (v := ?_) rfl (by kernel_rfl) (by kernel_rfl) (by kernel_rfl) (fun _ _ _ h => h) (Or.inl ⟨by rfl, fun V hV => ?_⟩) (by assumption) ?_
          rotate_left
          · go_simp
            try with_reducible rfl
          try simp only [Act.put, List.getElem_toArray, List.getElem_cons_zero, List.getElem_cons_succ, List.setIfInBounds_toArray, List.set_cons_zero, List.set_cons_succ]
          refine wpAnyH_ready (rs := [1]) (by kernel_rfl) (by simp) ?_
          refine AllReadyH.cons (o := _) rfl (fun K hK => ?_) AllReadyH.nil
          go_simp
          refine (fieldX_any r cc p n c l _ hS.ints (by have := HN.out; omega)).mono ?_
          rintro e U1 ⟨p2, c2, rfl, hi1, hb1, _⟩
          have HI2 := hid hi1
          have HIA := hid (HIA.out.drew.below hb1)
          clear hi1
          refine hK.out _ _ (hS.step hb1) (fun hS => ?_)
          clear hK K
          try simp only [List.setIfInBounds_toArray, List.set_cons_zero, List.set_cons_succ]
          refine wpAnyH_ready (rs := [3]) (by kernel_rfl) (by simp) ?_
          refine AllReadyH.cons (o := _) rfl (fun K hK => ?_) AllReadyH.nil
          go_simp
          refine (lotX_any seed stp draws _).mono ?_
          rintro e U3 ⟨rfl, hb3⟩
          have HI2 := hid (HI2.out.below hb3)
          have HIA := hid (HIA.out.below hb3)
          refine hK.out _ _ (hS.step hb3) (fun hS => ?_)
          clear hK K
          try simp only [List.setIfInBounds_toArray, List.set_cons_zero, List.set_cons_succ]
          refine wpAnyH_ready (rs := [5]) (by kernel_rfl) (by simp) ?_
          refine AllReadyH.cons (o := _) rfl (fun K hK => ?_) AllReadyH.nil
          go_simp
          refine (countsX_any q m d cs _ hS.cnts (by have := HN.out; omega)).mono ?_
          rintro e U5 ⟨v5, rfl, ho5, hb5⟩
          obtain ⟨q5, d5, rfl, hc5⟩ := ho5.slice
          have HC5 := hid hc5
          have HI2 := hid (HI2.out.below hb5)
          have HIA := hid (HIA.out.below hb5)
          clear hc5 ho5
          refine hK.out _ _ (hS.step hb5) (fun hS => ?_)
          clear hK K
          try simp only [List.setIfInBounds_toArray, List.set_cons_zero, List.set_cons_succ]
          refine wpAnyH_ready (rs := [6]) (by kernel_rfl) (by simp) ?_
          refine AllReadyH.cons (o := _) rfl (fun K hK => ?_) AllReadyH.nil
          go_simp
          have hFo := Foreign_any r cc p2 n c2 l seed stp draws q5 _ d5 cs _ HI2.out (by have := HN.out; omega) HC5.out (by have := HC5.out.1; have := HN.out; have := hS.cnts.1; omega)
          rw [HX.out, HG.out] at hFo
          refine hFo.mono ?_
          clear hFo
          rintro e U6 ⟨v6, rfl, ho6, hb6⟩
          obtain ⟨px, cx, rfl, hix⟩ := ho6.slice
          have HIX := hid hix
          have HIA := hid (HIA.out.below hb6)
          clear hix ho6
          refine hK.out _ _ (hS.step hb6) (fun hS => ?_)
          clear hK K
          try simp only [List.setIfInBounds_toArray, List.set_cons_zero, List.set_cons_succ]
          refine wpAnyH_take (i := 7) (v := ?_) rfl (by kernel_rfl) (by kernel_rfl) (by kernel_rfl) (fun _ _ _ h => h) (Or.inl ⟨by rfl, fun V hV => ?_⟩) (by assumption) ?_
          rotate_left
          · go_simp
            try with_reducible rfl
          try simp only [Act.put, List.getElem_toArray, List.getElem_cons_zero, List.getElem_cons_succ, List.setIfInBounds_toArray, List.set_cons_zero, List.set_cons_succ]
          refine wpAnyH_take (i := 8) (v := ?_) rfl (by kernel_rfl) (by kernel_rfl) (by kernel_rfl) (fun _ _ _ h => h) (Or.inl ⟨by rfl, fun V hV => ?_⟩) (by assumption) ?_
          rotate_left
          · go_simp
            try with_reducible rfl
          try simp only [Act.put, List.getElem_toArray, List.getElem_cons_zero, List.getElem_cons_succ, List.setIfInBounds_toArray, List.set_cons_zero, List.set_cons_succ]
          refine wpAnyH_take (i := 9) (v := ?_) rfl (by kernel_rfl) (by kernel_rfl) (by kernel_rfl) (fun _ _ _ h => h) (Or.inl ⟨by rfl, fun V hV => ?_⟩) (by assumption) ?_
          rotate_left
          · go_simp
            try with_reducible rfl
          try simp only [Act.put, List.getElem_toArray, List.getElem_cons_zero, List.getElem_cons_succ, List.setIfInBounds_toArray, List.set_cons_zero, List.set_cons_succ]
          refine wpAnyH_take (i := 10) (v := ?_) rfl (by kernel_rfl) (by kernel_rfl) (by kernel_rfl) (fun _ _ _ h => h) (Or.inl ⟨by rfl, fun V hV => ?_⟩) (by assumption) ?_
          rotate_left
          · go_simp
            try with_reducible rfl
          try simp only [Act.put, List.getElem_toArray, List.getElem_cons_zero, List.getElem_cons_succ, List.setIfInBounds_toArray, List.set_cons_zero, List.set_cons_succ]
          refine wpAnyH_take (i := 11) (v := ?_) rfl (by kernel_rfl) (by kernel_rfl) (by kernel_rfl) (fun _ _ _ h => h) (Or.inl ⟨by rfl, fun V hV => ?_⟩) (by assumption) ?_
          rotate_left
          · go_simp
            try with_reducible rfl
          try simp only [Act.put, List.getElem_toArray, List.getElem_cons_zero, List.getElem_cons_succ, List.setIfInBounds_toArray, List.set_cons_zero, List.set_cons_succ]
          refine wpAnyH_done (by kernel_rfl) ?_ _
          have HS4 := hid hS
          clear hS
          have HIA4 := hid HIA.out; have HIX4 := hid HIX.out
          have g0 := HS4.out.c0; have g1 := HS4.out.c1; have g2 := HS4.out.c2; have g3 := HS4.out.c3; have g4 := HS4.out.c4; have g5 := HS4.out.c5
          go_wp2_with fail
          refine (isField_any r cc p n c l _ HS4.out.ints (by have := HN.out; omega)).mono ?_
          rintro e w5 ⟨rfl, hb⟩
          have HS5 := hid (HS4.out.step hb)
          have HIA5 := hid (HIA4.out.below hb)
          have HIX5 := hid (HIX4.out.below hb)
          rw [HFB.out]
          clear hb g5 g0 g1 g2 g3 g4
          have g0 := HS5.out.c0; have g1 := HS5.out.c1; have g2 := HS5.out.c2; have g3 := HS5.out.c3; have g4 := HS5.out.c4; have g5 := HS5.out.c5
          go_wp2_with fail
          refine (fieldX_any r cc p n c l _ HS5.out.ints (by have := HN.out; omega)).mono ?_
          rintro e w6 ⟨p3, c3, rfl, hi3, hb, _⟩
          have HS6 := hid (HS5.out.step hb)
          have HIA6 := hid (HIA5.out.below hb)
          have HIX6 := hid (HIX5.out.below hb)
          have HI3 := hid hi3
          clear hi3
          clear hb g5 g0 g1 g2 g3 g4
          have g0 := HS6.out.c0; have g1 := HS6.out.c1; have g2 := HS6.out.c2; have g3 := HS6.out.c3; have g4 := HS6.out.c4; have g5 := HS6.out.c5
          go_wp2_with fail
          refine (checkField_any r cc p3 n c3 l _ HI3.out (by have := HN.out; omega)).mono ?_
          rintro e w7 ⟨rfl, hb⟩
          have HS7 := hid (HS6.out.step hb)
          have HIA7 := hid (HIA6.out.below hb)
          have HIX7 := hid (HIX6.out.below hb)
          rw [HFB.out, show errF true = (0 : Int) from rfl]
          clear hb g5 g0 g1 g2 g3 g4
          have g0 := HS7.out.c0; have g1 := HS7.out.c1; have g2 := HS7.out.c2; have g3 := HS7.out.c3; have g4 := HS7.out.c4; have g5 := HS7.out.c5
          go_wp2_with fail
          refine (isLot_any _ _ _ _ _ _ _ _ _).mono ?_
          rintro e w8 ⟨rfl, hb⟩
          have HS8 := hid (HS7.out.step hb)
          have HIA8 := hid (HIA7.out.below hb)
          have HIX8 := hid (HIX7.out.below hb)
          rw [HLB.out]
          clear hb g5 g0 g1 g2 g3 g4
          have g0 := HS8.out.c0; have g1 := HS8.out.c1; have g2 := HS8.out.c2; have g3 := HS8.out.c3; have g4 := HS8.out.c4; have g5 := HS8.out.c5
          have hdr := draw_any r cc p n c seed stp draws w8 (by have := HFF.out; have := HNL.out; omega) (by have := HFF.out; have := HNL.out; omega) HLL.out.1 HLL.out.2.1 HLL.out.2.2.1 HLL.out.2.2.2.1 HLL.out.2.2.2.2.1 HLL.out.2.2.2.2.2.2
          rw [← HP1.out] at hdr
          go_wp2_with fail
          refine (hdr).mono ?_
          rintro e w9 ⟨v7, rfl, ho7, hb⟩
          have HS9 := hid (HS8.out.step hb)
          have HIA9 := hid (HIA8.out.below hb)
          have HIX9 := hid (HIX8.out.below hb)
          obtain ⟨p7, c7, rfl, hi7⟩ := ho7.slice
          have HI7 := hid hi7
          clear hi7 ho7 hdr
          clear hb g5 g0 g1 g2 g3 g4
          have g0 := HS9.out.c0; have g1 := HS9.out.c1; have g2 := HS9.out.c2; have g3 := HS9.out.c3; have g4 := HS9.out.c4; have g5 := HS9.out.c5
          have HI9 := hid HI7.out
          go_wp2_with fail
          refine (sameX_any pa _ ca P p7 _ c7 P _ HIA9.out HI9.out (by have := HPL.out; omega) (by have := HPL.out; omega)).mono ?_
          rintro e w10 ⟨rfl, hb⟩
          have HS10 := hid (HS9.out.step hb)
          have HIA10 := hid (HIA9.out.below hb)
          have HIX10 := hid (HIX9.out.below hb)
          have HI10 := hid (HI9.out.below hb)
          rw [sameB_self]
          clear hb g5 g0 g1 g2 g3 g4
          have g0 := HS10.out.c0; have g1 := HS10.out.c1; have g2 := HS10.out.c2; have g3 := HS10.out.c3; have g4 := HS10.out.c4; have g5 := HS10.out.c5
          go_wp2_with fail
          refine (awake_any _).mono ?_
          rintro e w99 ⟨rfl, hb⟩
          go_wp2_with fail
          go_ret
          exact ⟨rfl, HS10.out.below.trans (hb.mono HS10.out.below.size)⟩
        · have hG1 : G = 0 := by rw [← HG.out, foreignE, HE.out, if_pos rfl, ← HML.out, if_neg h6]
          have hX1 : X = foreignL n seed stp draws cs := by rw [← HX.out, foreignV, HG.out, hG1, if_pos rfl, HP.out, HP1.out]; exact for_foreign (by have := HFF.out; have := HNL.out; omega) HLL.out.2.2.2.2.2.2
          subst hG1
          have HX1 := hid hX1
          have h6i : ¬ (6 : Int) < m := by omega
          clear hX1
          have HS1 := hid (LotW.start (r := r) (cc := cc) (c := c) (seed := seed) (stp := stp) (draws := draws) (d := d) hl hcs)
          clear hl hcs
          have g0 := HS1.out.c0; have g1 := HS1.out.c1; have g2 := HS1.out.c2; have g3 := HS1.out.c3; have g4 := HS1.out.c4; have g5 := HS1.out.c5
          go_enter Try.func16, Try.ntmps16
          go_wp2_with fail
          refine (thin_any _ _ _ _ _ _ _ _ _ _).mono ?_
          rintro e w2 ⟨rfl, hb⟩
          have HS2 := hid (HS1.out.step hb)
          rw [show (decide (n ≤ 12) && decide (m ≤ 9)) = true from HT.out]
          clear hb g5 g0 g1 g2 g3 g4
          have g0 := HS2.out.c0; have g1 := HS2.out.c1; have g2 := HS2.out.c2; have g3 := HS2.out.c3; have g4 := HS2.out.c4; have g5 := HS2.out.c5
          clear g0 g1 g2 g3 g4 g5
          go_wp2_with fail
          refine wp_region_held_drew (S := fun V => LotW w r cc p n c l seed stp draws q m d cs V) (by kernel_rfl) (HS2.out.step (Below.refl _ _).drew) (fun hS => ?_)
          simp only [List.size_toArray, List.length_cons, List.length_nil, Nat.reduceAdd, Array.replicate_succ, Array.replicate_zero, List.push_toArray, List.nil_append, List.cons_append]
          refine wpAnyH_take (i := 0) (v := ?_) rfl (by kernel_rfl) (by kernel_rfl) (by kernel_rfl) (fun _ _ _ h => h) (Or.inl ⟨by rfl, fun V hV => ?_⟩) (by assumption) ?_
          rotate_left
          · have g0 := hV.c0; have g1 := hV.c1; have g2 := hV.c2; go_simp
            try with_reducible rfl
          try simp only [Act.put, List.getElem_toArray, List.getElem_cons_zero, List.setIfInBounds_toArray, List.set_cons_zero, List.set_cons_succ]
          refine wpAnyH_take (i := 2) (v := ?_) rfl (by kernel_rfl) (by kernel_rfl) (by kernel_rfl) (fun _ _ _ h => h) (Or.inl ⟨by rfl, fun V hV => ?_⟩) (by assumption) ?_
          rotate_left
          · have g3 := hV.c3; have g4 := hV.c4; have g5 := hV.c5; go_simp
            try with_reducible rfl
          try simp only [Act.put, List.getElem_toArray, List.getElem_cons_zero, List.getElem_cons_succ, List.setIfInBounds_toArray, List.set_cons_zero, List.set_cons_succ]
          refine wpAnyH_ready (rs := [1]) (by kernel_rfl) (by simp) ?_
          refine AllReadyH.cons (o := _) rfl (fun K hK => ?_) AllReadyH.nil
          go_simp
          refine (fieldX_any r cc p n c l _ hS.ints (by have := HN.out; omega)).mono ?_
          rintro e V1 ⟨p1, c1, rfl, hi1, hb1, _⟩
          have HI1 := hid hi1
          clear hi1
          refine hK.out _ _ (hS.step hb1) (fun hS => ?_)
          clear hK K
          try simp only [List.setIfInBounds_toArray, List.set_cons_zero, List.set_cons_succ]
          refine wpAnyH_ready (rs := [3]) (by kernel_rfl) (by simp) ?_
          refine AllReadyH.cons (o := _) rfl (fun K hK => ?_) AllReadyH.nil
          go_simp
          refine (lotX_any seed stp draws _).mono ?_
          rintro e V3 ⟨rfl, hb3⟩
          have HI1 := hid (HI1.out.below hb3)
          refine hK.out _ _ (hS.step hb3) (fun hS => ?_)
          clear hK K
          try simp only [List.setIfInBounds_toArray, List.set_cons_zero, List.set_cons_succ]
          refine wpAnyH_ready (rs := [4]) (by kernel_rfl) (by simp) ?_
          refine AllReadyH.cons (o := _) rfl (fun K hK => ?_) AllReadyH.nil
          go_simp
          have hDr := Draw_any r cc p1 n c1 l seed stp draws _ HI1.out (by have := HN.out; omega)
          rw [HP.out, HE.out] at hDr
          refine hDr.mono ?_
          clear hDr
          rintro e V4 ⟨v4, rfl, ho4, hb4⟩
          obtain ⟨pa, ca, rfl, hia⟩ := ho4.slice
          have HIA := hid hia
          clear hia ho4
          refine hK.out _ _ (hS.step hb4) (fun hS => ?_)
          clear hK K
          try simp only [List.setIfInBounds_toArray, List.set_cons_zero, List.set_cons_succ]
          refine wpAnyH_take (i := 5) (v := ?_) rfl (by kernel_rfl) (by kernel_rfl) (by kernel_rfl) (fun _ _ _ h => h) (Or.inl ⟨by rfl, fun V hV => ?_⟩) (by assumption) ?_
          rotate_left
          · go_simp
            try with_reducible rfl
          try simp only [Act.put, List.getElem_toArray, List.getElem_cons_zero, List.getElem_cons_succ, List.setIfInBounds_toArray, List.set_cons_zero, List.set_cons_succ]
          refine wpAnyH_take (i := 6) (v := ?_) rfl (by kernel_rfl) (by kernel_rfl) (by kernel_rfl) (fun _ _ _ h => h) (Or.inl ⟨by rfl, fun V hV => ?_⟩) (by assumption) ?_
          rotate_left
          · go_simp
            try with_reducible rfl
          try simp only [Act.put, List.getElem_toArray, List.getElem_cons_zero, List.getElem_cons_succ, List.setIfInBounds_toArray, List.set_cons_zero, List.set_cons_succ]
          refine wpAnyH_take (i := 7) (v := ?_) rfl (by kernel_rfl) (by kernel_rfl) (by kernel_rfl) (fun _ _ _ h => h) (Or.inl ⟨by rfl, fun V hV => ?_⟩) (by assumption) ?_
          rotate_left
          · go_simp
            try with_reducible rfl
          try simp only [Act.put, List.getElem_toArray, List.getElem_cons_zero, List.getElem_cons_succ, List.setIfInBounds_toArray, List.set_cons_zero, List.set_cons_succ]
          refine wpAnyH_take (i := 8) (v := ?_) rfl (by kernel_rfl) (by kernel_rfl) (by kernel_rfl) (fun _ _ _ h => h) (Or.inl ⟨by rfl, fun V hV => ?_⟩) (by assumption) ?_
          rotate_left
          · go_simp
            try with_reducible rfl
          try simp only [Act.put, List.getElem_toArray, List.getElem_cons_zero, List.getElem_cons_succ, List.setIfInBounds_toArray, List.set_cons_zero, List.set_cons_succ]
          refine wpAnyH_take (i := 9) (v := ?_) rfl (by kernel_rfl) (by kernel_rfl) (by kernel_rfl) (fun _ _ _ h => h) (Or.inl ⟨by rfl, fun V hV => ?_⟩) (by assumption) ?_
          rotate_left
          · go_simp
            try with_reducible rfl
          try simp only [Act.put, List.getElem_toArray, List.getElem_cons_zero, List.getElem_cons_succ, List.setIfInBounds_toArray, List.set_cons_zero, List.set_cons_succ]
          refine wpAnyH_done (by kernel_rfl) ?_ _
          have HS3 := hid hS
          clear hS
          go_wp2_with fail
          refine wp_region_held_drew (S := fun V => LotW w r cc p n c l seed stp draws q m d cs V) (by kernel_rfl) (HS3.out.step (Below.refl _ _).drew) (fun hS => ?_)
          simp only [List.size_toArray, List.length_cons, List.length_nil, Nat.reduceAdd, Array.replicate_succ, Array.replicate_zero, List.push_toArray, List.nil_append, List.cons_append]
          refine wpAnyH_take (i := 0) (v := ?_) rfl (by kernel_rfl) (by kernel_rfl) (by kernel_rfl) (fun _ _ _ h => h) (Or.inl ⟨by rfl, fun V hV => ?_⟩) (by assumption) ?_
          rotate_left
          · have g0 := hV.c0; have g1 := hV.c1; have g2 := hV.c2; go_simp
            try with_reducible rfl
          try simp only [Act.put, List.getElem_toArray, List.getElem_cons_zero, List.setIfInBounds_toArray, List.set_cons_zero, List.set_cons_succ]
          refine wpAnyH_take (i := 2) (v := ?_) rfl (by kernel_rfl) (by kernel_rfl) (by kernel_rfl) (fun _ _ _ h => h) (Or.inl ⟨by rfl, fun V hV => ?_⟩) (by assumption) ?_
          rotate_left
          · have g3 := hV.c3; have g4 := hV.c4; have g5 := hV.c5; go_simp
            try with_reducible rfl
          try simp only [Act.put, List.getElem_toArray, List.getElem_cons_zero, List.getElem_cons_succ, List.setIfInBounds_toArray, List.set_cons_zero, List.set_cons_succ]
          refine wpAnyH_take (i := 4) (v := ?_) rfl (by kernel_rfl) (by kernel_rfl) (by kernel_rfl) (fun _ _ _ h => h) (Or.inl ⟨by rfl, fun V hV => ?_⟩) (by assumption) ?_
          rotate_left
          · go_simp
            try with_reducible rfl
          try simp only [Act.put, List.getElem_toArray, List.getElem_cons_zero, List.getElem_cons_succ, List.setIfInBounds_toArray, List.set_cons_zero, List.set_cons_succ]
          refine wpAnyH_ready (rs := [1]) (by kernel_rfl) (by simp) ?_
          refine AllReadyH.cons (o := _) rfl (fun K hK => ?_) AllReadyH.nil
          go_simp
          refine (fieldX_any r cc p n c l _ hS.ints (by have := HN.out; omega)).mono ?_
          rintro e U1 ⟨p2, c2, rfl, hi1, hb1, _⟩
          have HI2 := hid hi1
          have HIA := hid (HIA.out.drew.below hb1)
          clear hi1
          refine hK.out _ _ (hS.step hb1) (fun hS => ?_)
          clear hK K
          try simp only [List.setIfInBounds_toArray, List.set_cons_zero, List.set_cons_succ]
          refine wpAnyH_ready (rs := [3]) (by kernel_rfl) (by simp) ?_
          refine AllReadyH.cons (o := _) rfl (fun K hK => ?_) AllReadyH.nil
          go_simp
          refine (lotX_any seed stp draws _).mono ?_
          rintro e U3 ⟨rfl, hb3⟩
          have HI2 := hid (HI2.out.below hb3)
          have HIA := hid (HIA.out.below hb3)
          refine hK.out _ _ (hS.step hb3) (fun hS => ?_)
          clear hK K
          try simp only [List.setIfInBounds_toArray, List.set_cons_zero, List.set_cons_succ]
          refine wpAnyH_ready (rs := [5]) (by kernel_rfl) (by simp) ?_
          refine AllReadyH.cons (o := _) rfl (fun K hK => ?_) AllReadyH.nil
          go_simp
          refine (countsX_any q m d cs _ hS.cnts (by have := HN.out; omega)).mono ?_
          rintro e U5 ⟨v5, rfl, ho5, hb5⟩
          obtain ⟨q5, d5, rfl, hc5⟩ := ho5.slice
          have HC5 := hid hc5
          have HI2 := hid (HI2.out.below hb5)
          have HIA := hid (HIA.out.below hb5)
          clear hc5 ho5
          refine hK.out _ _ (hS.step hb5) (fun hS => ?_)
          clear hK K
          try simp only [List.setIfInBounds_toArray, List.set_cons_zero, List.set_cons_succ]
          refine wpAnyH_ready (rs := [6]) (by kernel_rfl) (by simp) ?_
          refine AllReadyH.cons (o := _) rfl (fun K hK => ?_) AllReadyH.nil
          go_simp
          have hFo := Foreign_any r cc p2 n c2 l seed stp draws q5 _ d5 cs _ HI2.out (by have := HN.out; omega) HC5.out (by have := HC5.out.1; have := HN.out; have := hS.cnts.1; omega)
          rw [HX.out, HG.out] at hFo
          refine hFo.mono ?_
          clear hFo
          rintro e U6 ⟨v6, rfl, ho6, hb6⟩
          obtain ⟨px, cx, rfl, hix⟩ := ho6.slice
          have HIX := hid hix
          have HIA := hid (HIA.out.below hb6)
          clear hix ho6
          refine hK.out _ _ (hS.step hb6) (fun hS => ?_)
          clear hK K
          try simp only [List.setIfInBounds_toArray, List.set_cons_zero, List.set_cons_succ]
          refine wpAnyH_take (i := 7) (v := ?_) rfl (by kernel_rfl) (by kernel_rfl) (by kernel_rfl) (fun _ _ _ h => h) (Or.inl ⟨by rfl, fun V hV => ?_⟩) (by assumption) ?_
          rotate_left
          · go_simp
            try with_reducible rfl
          try simp only [Act.put, List.getElem_toArray, List.getElem_cons_zero, List.getElem_cons_succ, List.setIfInBounds_toArray, List.set_cons_zero, List.set_cons_succ]
          refine wpAnyH_take (i := 8) (v := ?_) rfl (by kernel_rfl) (by kernel_rfl) (by kernel_rfl) (fun _ _ _ h => h) (Or.inl ⟨by rfl, fun V hV => ?_⟩) (by assumption) ?_
          rotate_left
          · go_simp
            try with_reducible rfl
          try simp only [Act.put, List.getElem_toArray, List.getElem_cons_zero, List.getElem_cons_succ, List.setIfInBounds_toArray, List.set_cons_zero, List.set_cons_succ]
          refine wpAnyH_take (i := 9) (v := ?_) rfl (by kernel_rfl) (by kernel_rfl) (by kernel_rfl) (fun _ _ _ h => h) (Or.inl ⟨by rfl, fun V hV => ?_⟩) (by assumption) ?_
          rotate_left
          · go_simp
            try with_reducible rfl
          try simp only [Act.put, List.getElem_toArray, List.getElem_cons_zero, List.getElem_cons_succ, List.setIfInBounds_toArray, List.set_cons_zero, List.set_cons_succ]
          refine wpAnyH_take (i := 10) (v := ?_) rfl (by kernel_rfl) (by kernel_rfl) (by kernel_rfl) (fun _ _ _ h => h) (Or.inl ⟨by rfl, fun V hV => ?_⟩) (by assumption) ?_
          rotate_left
          · go_simp
            try with_reducible rfl
          try simp only [Act.put, List.getElem_toArray, List.getElem_cons_zero, List.getElem_cons_succ, List.setIfInBounds_toArray, List.set_cons_zero, List.set_cons_succ]
          refine wpAnyH_take (i := 11) (v := ?_) rfl (by kernel_rfl) (by kernel_rfl) (by kernel_rfl) (fun _ _ _ h => h) (Or.inl ⟨by rfl, fun V hV => ?_⟩) (by assumption) ?_
          rotate_left
          · go_simp
            try with_reducible rfl
          try simp only [Act.put, List.getElem_toArray, List.getElem_cons_zero, List.getElem_cons_succ, List.setIfInBounds_toArray, List.set_cons_zero, List.set_cons_succ]
          refine wpAnyH_done (by kernel_rfl) ?_ _
          have HS4 := hid hS
          clear hS
          have HIA4 := hid HIA.out; have HIX4 := hid HIX.out
          have g0 := HS4.out.c0; have g1 := HS4.out.c1; have g2 := HS4.out.c2; have g3 := HS4.out.c3; have g4 := HS4.out.c4; have g5 := HS4.out.c5
          go_wp2_with fail
          refine (isField_any r cc p n c l _ HS4.out.ints (by have := HN.out; omega)).mono ?_
          rintro e w5 ⟨rfl, hb⟩
          have HS5 := hid (HS4.out.step hb)
          have HIA5 := hid (HIA4.out.below hb)
          have HIX5 := hid (HIX4.out.below hb)
          rw [HFB.out]
          clear hb g5 g0 g1 g2 g3 g4
          have g0 := HS5.out.c0; have g1 := HS5.out.c1; have g2 := HS5.out.c2; have g3 := HS5.out.c3; have g4 := HS5.out.c4; have g5 := HS5.out.c5
          go_wp2_with fail
          refine (fieldX_any r cc p n c l _ HS5.out.ints (by have := HN.out; omega)).mono ?_
          rintro e w6 ⟨p3, c3, rfl, hi3, hb, _⟩
          have HS6 := hid (HS5.out.step hb)
          have HIA6 := hid (HIA5.out.below hb)
          have HIX6 := hid (HIX5.out.below hb)
          have HI3 := hid hi3
          clear hi3
          clear hb g5 g0 g1 g2 g3 g4
          have g0 := HS6.out.c0; have g1 := HS6.out.c1; have g2 := HS6.out.c2; have g3 := HS6.out.c3; have g4 := HS6.out.c4; have g5 := HS6.out.c5
          go_wp2_with fail
          refine (checkField_any r cc p3 n c3 l _ HI3.out (by have := HN.out; omega)).mono ?_
          rintro e w7 ⟨rfl, hb⟩
          have HS7 := hid (HS6.out.step hb)
          have HIA7 := hid (HIA6.out.below hb)
          have HIX7 := hid (HIX6.out.below hb)
          rw [HFB.out, show errF true = (0 : Int) from rfl]
          clear hb g5 g0 g1 g2 g3 g4
          have g0 := HS7.out.c0; have g1 := HS7.out.c1; have g2 := HS7.out.c2; have g3 := HS7.out.c3; have g4 := HS7.out.c4; have g5 := HS7.out.c5
          go_wp2_with fail
          refine (isLot_any _ _ _ _ _ _ _ _ _).mono ?_
          rintro e w8 ⟨rfl, hb⟩
          have HS8 := hid (HS7.out.step hb)
          have HIA8 := hid (HIA7.out.below hb)
          have HIX8 := hid (HIX7.out.below hb)
          rw [HLB.out]
          clear hb g5 g0 g1 g2 g3 g4
          have g0 := HS8.out.c0; have g1 := HS8.out.c1; have g2 := HS8.out.c2; have g3 := HS8.out.c3; have g4 := HS8.out.c4; have g5 := HS8.out.c5
          have hdr := draw_any r cc p n c seed stp draws w8 (by have := HFF.out; have := HNL.out; omega) (by have := HFF.out; have := HNL.out; omega) HLL.out.1 HLL.out.2.1 HLL.out.2.2.1 HLL.out.2.2.2.1 HLL.out.2.2.2.2.1 HLL.out.2.2.2.2.2.2
          rw [← HP1.out] at hdr
          go_wp2_with fail
          refine (hdr).mono ?_
          rintro e w9 ⟨v7, rfl, ho7, hb⟩
          have HS9 := hid (HS8.out.step hb)
          have HIA9 := hid (HIA8.out.below hb)
          have HIX9 := hid (HIX8.out.below hb)
          obtain ⟨p7, c7, rfl, hi7⟩ := ho7.slice
          have HI7 := hid hi7
          clear hi7 ho7 hdr
          clear hb g5 g0 g1 g2 g3 g4
          have g0 := HS9.out.c0; have g1 := HS9.out.c1; have g2 := HS9.out.c2; have g3 := HS9.out.c3; have g4 := HS9.out.c4; have g5 := HS9.out.c5
          have HI9 := hid HI7.out
          go_wp2_with fail
          refine (sameX_any pa _ ca P p7 _ c7 P _ HIA9.out HI9.out (by have := HPL.out; omega) (by have := HPL.out; omega)).mono ?_
          rintro e w10 ⟨rfl, hb⟩
          have HS10 := hid (HS9.out.step hb)
          have HIA10 := hid (HIA9.out.below hb)
          have HIX10 := hid (HIX9.out.below hb)
          have HI10 := hid (HI9.out.below hb)
          rw [sameB_self]
          clear hb g5 g0 g1 g2 g3 g4
          have g0 := HS10.out.c0; have g1 := HS10.out.c1; have g2 := HS10.out.c2; have g3 := HS10.out.c3; have g4 := HS10.out.c4; have g5 := HS10.out.c5
          have hfo := foreign_any r cc p n c seed stp draws q m d cs w10 (by have := HFF.out; have := HNL.out; omega) (by have := HFF.out; have := HNL.out; omega) HLL.out.1 HLL.out.2.1 HLL.out.2.2.1 HLL.out.2.2.2.1 HLL.out.2.2.2.2.1 HLL.out.2.2.2.2.2.2 HS10.out.cnts (by have := HN.out; omega)
          rw [← HX1.out] at hfo
          go_wp2_with fail
          refine (hfo).mono ?_
          rintro e w11 ⟨v8, rfl, ho8, hb⟩
          have HS11 := hid (HS10.out.step hb)
          have HIA11 := hid (HIA10.out.below hb)
          have HIX11 := hid (HIX10.out.below hb)
          have HI11 := hid (HI10.out.below hb)
          obtain ⟨p8, c8, rfl, hi8⟩ := ho8.slice
          have HI8 := hid hi8
          have HXLN : Hid (X.length ≤ 1000000) := by show X.length ≤ 1000000; have h1 := foreignL_len (L := n) (seed := seed) (step := stp) (draws := draws) cs; rw [← HX1.out] at h1; have h2 := HML.out; have h3 := HN.out; omega
          clear hi8 ho8 hfo
          clear hb g5 g0 g1 g2 g3 g4
          have g0 := HS11.out.c0; have g1 := HS11.out.c1; have g2 := HS11.out.c2; have g3 := HS11.out.c3; have g4 := HS11.out.c4; have g5 := HS11.out.c5
          go_wp2_with fail
          refine (sameX_any px _ cx X p8 _ c8 X _ HIX11.out HI8.out HXLN.out HXLN.out).mono ?_
          rintro e w12 ⟨rfl, hb⟩
          have HS12 := hid (HS11.out.step hb)
          have HIA12 := hid (HIA11.out.below hb)
          have HIX12 := hid (HIX11.out.below hb)
          rw [sameB_self]
          clear hb g5 g0 g1 g2 g3 g4
          have g0 := HS12.out.c0; have g1 := HS12.out.c1; have g2 := HS12.out.c2; have g3 := HS12.out.c3; have g4 := HS12.out.c4; have g5 := HS12.out.c5
          go_wp2_with fail
          refine (awake_any _).mono ?_
          rintro e w99 ⟨rfl, hb⟩
          go_wp2_with fail
          go_ret
          exact ⟨rfl, HS12.out.below.trans (hb.mono HS12.out.below.size)⟩
  · have ht' : (decide (n ≤ 12) && decide (m ≤ 9)) = false := by simpa using ht
    clear ht
    have HS1 := hid (LotW.start (r := r) (cc := cc) (c := c) (seed := seed) (stp := stp) (draws := draws) (d := d) hl hcs)
    clear hl hcs
    have g0 := HS1.out.c0; have g1 := HS1.out.c1; have g2 := HS1.out.c2; have g3 := HS1.out.c3; have g4 := HS1.out.c4; have g5 := HS1.out.c5
    go_enter Try.func16, Try.ntmps16
    go_wp2_with fail
    refine (thin_any _ _ _ _ _ _ _ _ _ _).mono ?_
    rintro e w2 ⟨rfl, hb⟩
    have HS2 := hid (HS1.out.step hb)
    rw [ht']
    clear ht'
    clear hb g5 g0 g1 g2 g3 g4
    go_wp2_with fail
    refine (awake_any _).mono ?_
    rintro e w99 ⟨rfl, hb⟩
    go_wp2_with fail
    go_ret
    exact ⟨rfl, HS2.out.below.trans (hb.mono HS2.out.below.size)⟩
end Go.Proofs.Ytlicijnaacdceaa
