/- FrameTurned returns true. No condition. -/
import Derived.Test.YtlicijnaacdceaaLawI
import Derived.Deep.Cut
namespace Go.Proofs.Ytlicijnaacdceaa
open Go.RowKit

theorem wrapN {u t n : Nat} (h : u ≤ t) (ht : t < n) (hn : n ≤ 100) : IntKind.i64.wrap (u : Int) = (u : Int) := IntWalk.i64_in _ (by omega)

theorem BoxIs.intAt {g j : Nat} {l : List Int} {W : World} (h : BoxIs g (intsV l) W) (hj : j < l.length) : ∃ z, W.cell? ⟨g, j, none⟩ = some (.int .i64 z) ∧ W.frozen? ⟨g, j, none⟩ = false :=
  ⟨l[j], h.2 j (.int .i64 l[j]) (by simp [intsV, hj])⟩

set_option maxRecDepth 40000 in
set_option maxHeartbeats 32000000 in
theorem frameTurned_any (r cc : Int) (p : Option Addr) (n c : Nat) (l : List Int) (sm : Int) (q : Option Addr) (m d : Nat) (cs : List Cnt) (y : Int) (w : World) (hl : IntsAt w p n l) (hcs : CntsAt w q m cs) (hy : 0 ≤ y ∧ y ≤ 255) :
    Calls Try.prog 6 #[.agg #[.int .i64 r, .int .i64 cc, .slice p n c, .int .i64 sm, .slice q m d], .int .u8 y] w fun e w' => e = .returned (.bool true) ∧ Below w.heap.size w w' := by
  have HSV : Hid (∀ V, Below (w.heap.size + 1) (w.alloc (.cells #[.int .i64 r, .int .i64 cc, .slice p n c, .int .i64 sm, .slice q m d] 27)) V → SAt w r cc p n c l sm q m d cs V) := by
    intro V hV
    have h1 : Below w.heap.size w V := ((Below.refl _ _).alloc (Nat.le_refl _) _).trans (hV.mono (by omega))
    exact ⟨Boxed1.step' (Boxed1.start _ _ _) hV, hl.below h1, hcs.below h1⟩
  have HIW := hid hl; have HCW := hid hcs; have HY := hid hy
  have HS1 := hid (HSV.out _ (Below.refl _ _))
  clear hl hcs hy
  have g0 := HS1.out.c0; have g1 := HS1.out.c1; have g2 := HS1.out.c2; have g3 := HS1.out.c3; have g4 := HS1.out.c4
  obtain ⟨cb, hcb⟩ : ∃ a, (thinB n m && decide (faultL r cc l sm cs = 0)) = a := ⟨_, rfl⟩
  have HCB := hid hcb
  go_enter Try.func6, Try.ntmps6
  go_wp2_with fail
  refine (ready_any r cc p n c l sm q m d cs _ HS1.out.ints HS1.out.cnts).mono ?_
  rintro e w2 ⟨rfl, hb⟩
  have HS2 := hid (HS1.out.step hb)
  rw [hcb]
  clear hcb
  have HBW := hid (show Below (w.heap.size + 1) (w.alloc (.cells #[.int .i64 r, .int .i64 cc, .slice p n c, .int .i64 sm, .slice q m d] 27)) w2 from by rw [← World.size_alloc w (.cells #[.int .i64 r, .int .i64 cc, .slice p n c, .int .i64 sm, .slice q m d] 27)]; exact hb)
  clear hb g0 g1 g2 g3 g4
  have g0 := HS2.out.c0; have g1 := HS2.out.c1; have g2 := HS2.out.c2; have g3 := HS2.out.c3; have g4 := HS2.out.c4
  cases cb with
  | false =>
    go_wp2_with fail
    refine (awake_any _).mono ?_
    rintro e w99 ⟨rfl, hb⟩
    go_wp2_with fail
    go_ret
    exact ⟨rfl, HS2.out.below.trans (hb.mono HS2.out.below.size)⟩
  | true =>
    have hnm : n ≤ 12 ∧ m ≤ 9 := by have h := HCB.out; simp only [Bool.and_eq_true, thinB, decide_eq_true_eq] at h; exact h.1
    have HN := hid hnm
    clear hnm
    have hf : faultL r cc l sm cs = 0 := by have h := HCB.out; simp only [Bool.and_eq_true, decide_eq_true_eq] at h; exact h.2
    have HF := hid hf
    clear hf
    have HFF := hid (field_facts (fault0 HF.out).2.1)
    have HNL : Hid (n = l.length) := HIW.out.1
    have HML : Hid (m = cs.length) := HCW.out.1
    obtain ⟨R, hR⟩ : ∃ R : Nat, r = (R : Int) := ⟨r.toNat, by have := HFF.out; omega⟩
    obtain ⟨C, hC⟩ : ∃ C : Nat, cc = (C : Int) := ⟨cc.toNat, by have := HFF.out; omega⟩
    have HR := hid hR; have HC9 := hid hC
    have HRC : Hid (1 ≤ R ∧ R ≤ 4 ∧ 1 ≤ C ∧ C ≤ 4) := by have := HFF.out; show _ ∧ _; omega
    have hf2 : faultL (R : Nat) (C : Nat) l sm cs = 0 := by have h := HF.out; rw [hR, hC] at h; exact h
    have HTO := hid (fault_turn hf2).1
    obtain ⟨L2, hL2⟩ : ∃ a, turnL R C l = a := ⟨_, rfl⟩
    obtain ⟨C2, hC2⟩ : ∃ a, cs.map (turnC R C) = a := ⟨_, rfl⟩
    have HL2 := hid hL2; have HC2 := hid hC2
    have HF2 : Hid (faultL cc r L2 sm C2 = 0) := by have h := (fault_turn hf2).2; rw [hL2, hC2, ← hR, ← hC] at h; exact h
    have HBT : Hid (bndR (shareL L2) cc r L2 sm C2 = bndR (shareL l) r cc l sm cs) := by have h := bnd_turn hf2; rw [hL2, hC2, ← hR, ← hC] at h; exact h
    have HAT : Hid (∀ part, aboveR part cc r L2 sm C2 = aboveR part r cc l sm cs) := by intro part; have h := above_turn hf2 part; rw [hL2, hC2, ← hR, ← hC] at h; exact h
    have HET : Hid (∀ part, fewE cc r L2 sm C2 part = fewE r cc l sm cs part) := by intro part; have h := fewE_turn hf2 part; rw [hL2, hC2, ← hR, ← hC] at h; exact h
    have HLT : Hid (∀ X Y, First (leftB cc l sm cs) cs.length X → First (leftB r L2 sm C2) C2.length Y → X = Y) := by intro X Y; have h := left_turn (sm := sm) (X := X) (Y := Y) HTO.out; rw [hL2, hC2, ← hR, ← hC] at h; exact h
    have HWT : Hid (∀ part X Y, First (fewB cc sm part l cs) l.length X → First (fewB r sm part L2 C2) L2.length Y → X.length = Y.length) := by intro part X Y; have h := few_len (sm := sm) (part := part) (X := X) (Y := Y) HTO.out; rw [hL2, hC2, ← hR, ← hC] at h; exact h
    have HNT : Hid (genP (okP cs [] cc sm) l 0 [] = [] ↔ genP (okP C2 [] r sm) L2 0 [] = []) := by have h := nil_turn (sm := sm) HTO.out []; rw [hL2, hC2, ← hR, ← hC] at h; exact h
    have HL2N : Hid (L2.length = n) := by show _ = _; rw [← hL2, turn_len, ← HNL.out]
    have HC2N : Hid (C2.length = m) := by show _ = _; rw [← hC2, List.length_map, ← HML.out]
    clear hf2 hL2 hC2 hR hC
    have hn1 : 1 ≤ n ∧ n ≤ 9 := by have := HFF.out; have := HNL.out; omega
    have HN1 := hid hn1
    have hnRC : n = R * C := by have h := HTO.out.len; have h2 := HNL.out; omega
    have HNRC := hid hnRC
    obtain ⟨bp, op, hpp, _⟩ := HIW.out.at (i := 0) (by have := HN1.out; omega)
    subst hpp
    clear hn1 hnRC
    have hge : w.heap.size + 1 ≤ w2.heap.size := by have h8 := HBW.out.size; rw [World.size_alloc] at h8; exact h8
    have HGE := hid hge
    clear hge
    obtain ⟨w3, hw3⟩ : ∃ a, w2.alloc (.cells #[.int .i64 0, .int .i64 0, .slice none 0 0, .int .i64 0, .slice none 0 0] 27) = a := ⟨_, rfl⟩
    have hx3 : BoxIs w2.heap.size #[.int .i64 0, .int .i64 0, .slice none 0 0, .int .i64 0, .slice none 0 0] w3 := by rw [← hw3]; exact BoxIs.start _ _ _
    obtain ⟨w4, hw4⟩ : ∃ a, (((((w3).setCell ⟨w2.heap.size, 0, none⟩ (.int .i64 r)).setCell ⟨w2.heap.size, 1, none⟩ (.int .i64 cc)).setCell ⟨w2.heap.size, 2, none⟩ (.slice (some ⟨bp, op, none⟩) n c)).setCell ⟨w2.heap.size, 3, none⟩ (.int .i64 sm)).setCell ⟨w2.heap.size, 4, none⟩ (.slice q m d) = a := ⟨_, rfl⟩
    have hx4 : BoxIs w2.heap.size #[.int .i64 r, .int .i64 cc, .slice (some ⟨bp, op, none⟩) n c, .int .i64 sm, .slice q m d] w4 := by rw [← hw4]; exact (((((hx3.put (j := 0) (.int .i64 r)).put (j := 1) (.int .i64 cc)).put (j := 2) (.slice (some ⟨bp, op, none⟩) n c)).put (j := 3) (.int .i64 sm)).put (j := 4) (.slice q m d))
    have hB4 : Below (w.heap.size + 1) (w.alloc (.cells #[.int .i64 r, .int .i64 cc, .slice (some ⟨bp, op, none⟩) n c, .int .i64 sm, .slice q m d] 27)) w4 := by rw [← hw4, ← hw3]; exact ((((((HBW.out.alloc HGE.out _).setCell (p := ⟨w2.heap.size, 0, none⟩) HGE.out (.int .i64 r)).setCell (p := ⟨w2.heap.size, 1, none⟩) HGE.out (.int .i64 cc)).setCell (p := ⟨w2.heap.size, 2, none⟩) HGE.out (.slice (some ⟨bp, op, none⟩) n c)).setCell (p := ⟨w2.heap.size, 3, none⟩) HGE.out (.int .i64 sm)).setCell (p := ⟨w2.heap.size, 4, none⟩) HGE.out (.slice q m d))
    have HX4 := hid hx4; have HB4 := hid hB4
    have k0 := (hx3.2 0 _ rfl).1; have f0 := (hx3.2 0 _ rfl).2; have k1 := (hx3.2 1 _ rfl).1; have f1 := (hx3.2 1 _ rfl).2; have k2 := (hx3.2 2 _ rfl).1; have f2 := (hx3.2 2 _ rfl).2; have k3 := (hx3.2 3 _ rfl).1; have f3 := (hx3.2 3 _ rfl).2; have k4 := (hx3.2 4 _ rfl).1; have f4 := (hx3.2 4 _ rfl).2
    clear hx3 hx4 hB4
    go_upto_region 4 with fail
    clear k0 f0 k1 f1 k2 f2 k3 f3 k4 f4 hw3 hw4 g0 g1 g2 g3 g4
    obtain ⟨bx, hbx⟩ : ∃ a, w2.heap.size = a := ⟨_, rfl⟩
    rw [hbx] at HX4 HGE ⊢
    clear hbx
    have hB := HB4.out.drew
    have hx : BoxIs bx #[.int .i64 r, .int .i64 cc, .slice (some ⟨bp, op, none⟩) n c, .int .i64 sm, .slice q m d] w4.drew := HX4.out
    refine wp_region_held_drew (S := fun V => Below (w.heap.size + 1) (w.alloc (.cells #[.int .i64 r, .int .i64 cc, .slice (some ⟨bp, op, none⟩) n c, .int .i64 sm, .slice q m d] 27)) V) (by kernel_rfl) (hB) (fun hS => ?_)
    simp only [List.size_toArray, List.length_cons, List.length_nil, Nat.reduceAdd, Array.replicate_succ, Array.replicate_zero, List.push_toArray, List.nil_append, List.cons_append]
    refine wpAnyH_take (i := 0) (v := ?_) rfl (by kernel_rfl) (by kernel_rfl) (by kernel_rfl) (fun _ _ _ h => h) (Or.inl ⟨by rfl, fun V hV => ?_⟩) (by assumption) ?_
    rotate_left
    · go_simp
      try with_reducible rfl
    try simp only [Act.put, List.getElem_toArray, List.getElem_cons_zero, List.setIfInBounds_toArray, List.set_cons_zero, List.set_cons_succ]
    refine wpAnyH_take (i := 1) (v := ?_) rfl (by kernel_rfl) (by kernel_rfl) (by kernel_rfl) (fun _ _ _ h => h) (Or.inl ⟨by rfl, fun V hV => ?_⟩) (by assumption) ?_
    rotate_left
    · go_simp
      try with_reducible rfl
    try simp only [Act.put, List.getElem_toArray, List.getElem_cons_zero, List.getElem_cons_succ, List.setIfInBounds_toArray, List.set_cons_zero, List.set_cons_succ]
    refine wpAnyH_take (i := 2) (v := ?_) rfl (by kernel_rfl) (by kernel_rfl) (by kernel_rfl) (fun _ _ _ h => h) (Or.inl ⟨by rfl, fun V hV => ?_⟩) (by assumption) ?_
    rotate_left
    · have g0 := (HSV.out V hV).c0; have g1 := (HSV.out V hV).c1; have g2 := (HSV.out V hV).c2; go_simp
      try with_reducible rfl
    try simp only [Act.put, List.getElem_toArray, List.getElem_cons_zero, List.getElem_cons_succ, List.setIfInBounds_toArray, List.set_cons_zero, List.set_cons_succ]
    refine wpAnyH_take (i := 3) (v := ?_) rfl (by kernel_rfl) (by kernel_rfl) (by kernel_rfl) (fun _ _ _ h => h) (Or.inl ⟨by rfl, fun V hV => ?_⟩) (by assumption) ?_
    rotate_left
    · go_simp
      try with_reducible rfl
    try simp only [Act.put, List.getElem_toArray, List.getElem_cons_zero, List.getElem_cons_succ, List.setIfInBounds_toArray, List.set_cons_zero, List.set_cons_succ]
    refine wpAnyH_take (i := 4) (v := ?_) rfl (by kernel_rfl) (by kernel_rfl) (by kernel_rfl) (fun _ _ _ h => h) (Or.inl ⟨by rfl, fun V hV => ?_⟩) (by assumption) ?_
    rotate_left
    · go_simp
      try with_reducible rfl
    try simp only [Act.put, List.getElem_toArray, List.getElem_cons_zero, List.getElem_cons_succ, List.setIfInBounds_toArray, List.set_cons_zero, List.set_cons_succ]
    refine wpAnyH_take (i := 5) (v := ?_) rfl (by kernel_rfl) (by kernel_rfl) (by kernel_rfl) (fun _ _ _ h => h) (Or.inl ⟨by rfl, fun V hV => ?_⟩) (by assumption) ?_
    rotate_left
    · have g0 := (HSV.out V hV).c0; have g1 := (HSV.out V hV).c1; have g2 := (HSV.out V hV).c2; go_simp
      try with_reducible rfl
    try simp only [Act.put, List.getElem_toArray, List.getElem_cons_zero, List.getElem_cons_succ, List.setIfInBounds_toArray, List.set_cons_zero, List.set_cons_succ]
    refine wpAnyH_take (i := 6) (v := ?_) rfl (by kernel_rfl) (by kernel_rfl) (by kernel_rfl) (fun _ _ _ h => h) (Or.inl ⟨by rfl, fun V hV => ?_⟩) (by assumption) ?_
    rotate_left
    · go_simp
      try with_reducible rfl
    try simp only [Act.put, List.getElem_toArray, List.getElem_cons_zero, List.getElem_cons_succ, List.setIfInBounds_toArray, List.set_cons_zero, List.set_cons_succ]
    refine wpAnyH_take (i := 7) (v := ?_) rfl (by kernel_rfl) (by kernel_rfl) (by kernel_rfl) (fun _ _ _ h => h) (Or.inl ⟨by rfl, fun V hV => ?_⟩) (by assumption) ?_
    rotate_left
    · go_simp
      try with_reducible rfl
    try simp only [Act.put, List.getElem_toArray, List.getElem_cons_zero, List.getElem_cons_succ, List.setIfInBounds_toArray, List.set_cons_zero, List.set_cons_succ]
    refine wpAnyH_take (i := 8) (v := ?_) rfl (by kernel_rfl) (by kernel_rfl) (by kernel_rfl) (fun _ _ _ h => h) (Or.inl ⟨by rfl, fun V hV => ?_⟩) (by assumption) ?_
    rotate_left
    · have g0 := (HSV.out V hV).c0; have g1 := (HSV.out V hV).c1; have g2 := (HSV.out V hV).c2; go_simp
      try with_reducible rfl
    try simp only [Act.put, List.getElem_toArray, List.getElem_cons_zero, List.getElem_cons_succ, List.setIfInBounds_toArray, List.set_cons_zero, List.set_cons_succ]
    refine wpAnyH_take (i := 9) (v := ?_) rfl (by kernel_rfl) (by kernel_rfl) (by kernel_rfl) (fun _ _ _ h => h) (Or.inl ⟨by rfl, fun V hV => ?_⟩) (by assumption) ?_
    rotate_left
    · go_simp
      try with_reducible rfl
    try simp only [Act.put, List.getElem_toArray, List.getElem_cons_zero, List.getElem_cons_succ, List.setIfInBounds_toArray, List.set_cons_zero, List.set_cons_succ]
    refine wpAnyH_ready (rs := [10]) (by kernel_rfl) (by simp) ?_
    refine AllReadyH.cons (o := _) rfl (fun K hK => ?_) AllReadyH.nil
    have hmk := fun W => run_make_row' (P := Try.prog) 22 3 (.int .i64 0) 8 Try.und22 Try.info3 rfl .i64 .i64 n (by have := HN.out; omega) (by have := HN.out; omega) W
    obtain ⟨V10, hV10⟩ : ∃ V, (w4.drew).alloc (.cells (madeCells #[.int .i64 0] n) 3) = V := ⟨_, rfl⟩
    have hg10 : BoxIs w4.heap.size (intsV (List.replicate n 0)) V10 := by rw [← hV10]; exact boxIs_made w4.drew n
    have hb : Below w4.heap.size w4.drew V10 := by rw [← hV10]; show Below w4.drew.heap.size w4.drew _; exact (Below.refl _ _).alloc (Nat.le_refl _) _
    have hgl : w.heap.size + 1 ≤ w4.heap.size := by have h8 := HB4.out.size; rw [World.size_alloc] at h8; exact h8
    have HGL := hid hgl
    clear hgl
    have HBL : Hid (bx < w4.heap.size) := HX4.out.1
    have HS10 : Hid (V10.heap.size = w4.heap.size + 1) := by show _ = _; rw [← hV10]; exact World.size_alloc _ _
    replace hB := hB.trans (hb.mono HGL.out); replace hx := hx.below hb
    clear hb
    go_simp
    clear hmk
    refine hK.out _ _ (hB) (fun hS => ?_)
    clear hK K
    try simp only [List.setIfInBounds_toArray, List.set_cons_zero, List.set_cons_succ]
    refine wpAnyH_take (i := 11) (v := ?_) rfl (by kernel_rfl) (by kernel_rfl) (by kernel_rfl) (fun _ _ _ h => h) (Or.inl ⟨by rfl, fun V hV => ?_⟩) (by assumption) ?_
    rotate_left
    · go_simp
      try with_reducible rfl
    try simp only [Act.put, List.getElem_toArray, List.getElem_cons_zero, List.getElem_cons_succ, List.setIfInBounds_toArray, List.set_cons_zero, List.set_cons_succ]
    refine wpAnyH_take (i := 12) (v := ?_) rfl (by kernel_rfl) (by kernel_rfl) (by kernel_rfl) (fun _ _ _ h => h) (Or.inl ⟨by rfl, fun V hV => ?_⟩) (by assumption) ?_
    rotate_left
    · go_simp
      try with_reducible rfl
    try simp only [Act.put, List.getElem_toArray, List.getElem_cons_zero, List.getElem_cons_succ, List.setIfInBounds_toArray, List.set_cons_zero, List.set_cons_succ]
    refine wpAnyH_ready (rs := [13]) (by kernel_rfl) (by simp) ?_
    refine AllReadyH.cons (o := _) rfl (fun K hK => ?_) AllReadyH.nil
    have k0 := (hx.2 0 _ rfl).1; have f0 := (hx.2 0 _ rfl).2; have k1 := (hx.2 1 _ rfl).1; have f1 := (hx.2 1 _ rfl).2; have k2 := (hx.2 2 _ rfl).1; have f2 := (hx.2 2 _ rfl).2; have k3 := (hx.2 3 _ rfl).1; have f3 := (hx.2 3 _ rfl).2; have k4 := (hx.2 4 _ rfl).1; have f4 := (hx.2 4 _ rfl).2
    obtain ⟨V13, hV13⟩ : ∃ V, (((V10).setCell ⟨bx, 0, none⟩ (.int .i64 cc)).setCell ⟨bx, 1, none⟩ (.int .i64 r)).setCell ⟨bx, 2, none⟩ (.slice (some ⟨w4.heap.size, 0, none⟩) n n) = V := ⟨_, rfl⟩
    have hx13 : BoxIs bx #[.int .i64 cc, .int .i64 r, .slice (some ⟨w4.heap.size, 0, none⟩) n n, .int .i64 sm, .slice q m d] V13 := by rw [← hV13]; exact (((hx.put (j := 0) (.int .i64 cc)).put (j := 1) (.int .i64 r)).put (j := 2) (.slice (some ⟨w4.heap.size, 0, none⟩) n n))
    have hg13 : BoxIs w4.heap.size (intsV (List.replicate n 0)) V13 := by rw [← hV13]; exact (((hg10.other (k' := 0) (Nat.ne_of_gt HBL.out) (.int .i64 cc)).other (k' := 1) (Nat.ne_of_gt HBL.out) (.int .i64 r)).other (k' := 2) (Nat.ne_of_gt HBL.out) (.slice (some ⟨w4.heap.size, 0, none⟩) n n))
    have hB13 : Below (w.heap.size + 1) (w.alloc (.cells #[.int .i64 r, .int .i64 cc, .slice (some ⟨bp, op, none⟩) n c, .int .i64 sm, .slice q m d] 27)) V13 := by rw [← hV13]; exact (((hB.setCell (p := ⟨bx, 0, none⟩) HGE.out (.int .i64 cc)).setCell (p := ⟨bx, 1, none⟩) HGE.out (.int .i64 r)).setCell (p := ⟨bx, 2, none⟩) HGE.out (.slice (some ⟨w4.heap.size, 0, none⟩) n n))
    have HS13 : Hid (V13.heap.size = w4.heap.size + 1) := by show _ = _; rw [← hV13]; simpa [World.setCell] using HS10.out
    go_simp
    try rw [hV13]
    clear k0 f0 k1 f1 k2 f2 k3 f3 k4 f4 hV13 hV10 hx hg10 hB
    refine hK.out _ _ (hB13) (fun hS => ?_)
    clear hK K
    try simp only [List.setIfInBounds_toArray, List.set_cons_zero, List.set_cons_succ]
    refine wpAnyH_done (by kernel_rfl) ?_ _
    clear hS
    obtain ⟨gb, hgb⟩ : ∃ a, w4.heap.size = a := ⟨_, rfl⟩
    rw [hgb] at hx13 hg13 HGL HBL HS13
    try rw [hgb]
    clear hgb HS10
    obtain ⟨w5, hw5⟩ : ∃ a, V13 = a := ⟨_, rfl⟩
    rw [hw5] at hx13 hg13 hB13 HS13 ⊢
    clear hw5
    obtain ⟨N, hN⟩ : ∃ a : Nat, gb + 1 = a := ⟨_, rfl⟩
    have HNN := hid hN
    rw [hN] at HS13
    clear hN
    obtain ⟨w6, hw6⟩ : ∃ a, w5.alloc (.cells #[] 59) = a := ⟨_, rfl⟩
    have hb6 : Below w5.heap.size w5 w6 := by rw [← hw6]; exact (Below.refl _ _).alloc (Nat.le_refl _) _
    have HO6 : Hid (OwnRef w6 N (.slice (some ⟨w5.heap.size, 0, none⟩) 0 0) []) := by rw [← hw6]; exact ownRef_nil _ (Nat.le_of_eq HS13.out.symm)
    have HLN : Hid (bx < N ∧ gb < N ∧ bx ≠ gb ∧ w.heap.size + 1 ≤ N ∧ N ≤ w6.heap.size ∧ w.heap.size + 1 ≤ gb) := by have h1 := HBL.out; have h2 := HNN.out; have h3 := HGL.out; have h4 := hb6.size; have h5 := HS13.out; show _ ∧ _; omega
    have HX6 := hid (hx13.below hb6); have HG6 := hid (hg13.below hb6); have HB6 := hid (hB13.trans (hb6.mono (by have h1 := HLN.out; have h2 := HS13.out; omega)))
    clear hx13 hg13 hB13 hb6
    have HS6 := hid (HSV.out _ HB6.out)
    have g4 := HS6.out.c4
    go_wp2_with (at_builtin; refine append_ref_any (by rfl) (.tmp 44) (.tmp 46) (by rfl) N _ [] q m d cs HO6.out (by rfl) (by rfl) HS6.out.cnts (by simp) (by have := HN.out; omega) HLN.out.2.2.2.2.1 ?_; intro v7 w7 ho7 hb7 hk7; rw [List.nil_append] at ho7; obtain ⟨q9, d9, e9, hq9⟩ := ho7.slice; rw [← HML.out] at e9 hq9; subst e9; have hx7 := HX6.out.keep hb7 HLN.out.1; have hg7 := HG6.out.keep hb7 HLN.out.2.1; have k4 := (hx7.2 4 _ rfl).1; have f4 := (hx7.2 4 _ rfl).2; have HO7 := hid ho7; have HX7 := hid hx7; have HG7 := hid hg7; have HB7 := hid (HB6.out.trans (hb7.mono HLN.out.2.2.2.1)); clear hw6 ho7 hx7 hg7 hb7 hk7 hq9 g4)
    have hx : BoxIs bx #[.int .i64 cc, .int .i64 r, .slice (some ⟨gb, 0, none⟩) n n, .int .i64 sm, .slice q9 m d9] (w7.setCell ⟨bx, 4, none⟩ (.slice q9 m d9)) := HX7.out.put (j := 4) (.slice q9 m d9)
    have hg : BoxIs gb (intsV (List.replicate n 0)) (w7.setCell ⟨bx, 4, none⟩ (.slice q9 m d9)) := HG7.out.other (k' := 4) HLN.out.2.2.1.symm (.slice q9 m d9)
    have ho : OwnRef (w7.setCell ⟨bx, 4, none⟩ (.slice q9 m d9)) N (.slice q9 m d9) cs := row_block HO7.out (fun u hu => Below.heap_setCell _ ⟨bx, 4, none⟩ (.slice q9 m d9) u (by have h1 := (World.ownsRow.lt HO7.out u hu).1; have h2 := HLN.out; show u ≠ bx; omega))
    have hB : Below (w.heap.size + 1) (w.alloc (.cells #[.int .i64 r, .int .i64 cc, .slice (some ⟨bp, op, none⟩) n c, .int .i64 sm, .slice q m d] 27)) (w7.setCell ⟨bx, 4, none⟩ (.slice q9 m d9)) := HB7.out.setCell (p := ⟨bx, 4, none⟩) HGE.out (.slice q9 m d9)
    clear k4 f4
    obtain ⟨w8, hw8⟩ : ∃ a, (w7.setCell ⟨bx, 4, none⟩ (.slice q9 m d9)) = a := ⟨_, rfl⟩
    rw [hw8] at hx hg ho hB ⊢
    clear hw8
    have HX8 := hid hx; have HG8 := hid hg; have HO8 := hid ho; have HB8 := hid hB
    clear hx hg ho hB
    go_loopw [6] (fun i wr => ∃ k : Nat, k ≤ n ∧ i = .int .i64 k ∧ BoxIs bx #[.int .i64 cc, .int .i64 r, .slice (some ⟨gb, 0, none⟩) n n, .int .i64 sm, .slice q9 m d9] wr ∧ BoxIs gb (intsV (turnT R C l k)) wr ∧ OwnRef wr N (.slice q9 m d9) cs ∧ Below (w.heap.size + 1) (w.alloc (.cells #[.int .i64 r, .int .i64 cc, .slice (some ⟨bp, op, none⟩) n c, .int .i64 sm, .slice q m d] 27)) wr) (fun i _ => n - (intOf i).toNat)
    case atStart => exact ⟨0, by omega, rfl, HX8.out, by rw [turnT_zero, ← HNL.out]; exact HG8.out, HO8.out, HB8.out⟩
    case round =>
      obtain ⟨k, hk, rfl, hx, hg, ho, hB⟩ := hrel
      have HSr := hid (HSV.out _ hB)
      have HXr := hid hx; have HGr := hid hg; have HOr := hid ho; have HBr := hid hB
      clear hx hg ho hB
      have g2 := HSr.out.c2
      by_cases hlt : k < n
      · skip
        obtain ⟨z, hz⟩ : ∃ a, l[k]? = some a := ⟨l[k]'(by rw [← HNL.out]; exact hlt), List.getElem?_eq_getElem _⟩
        have HZ := hid hz
        clear hz
        have HLK := hid hlt
        have hcc0 : ¬ cc = 0 := by have := HFF.out; omega
        have hcc1 : (cc == 0) = false := by simp [hcc0]
        have htr : trP R C k < n := by rw [HNRC.out]; exact tr_lt (by rw [← HNRC.out]; exact HLK.out)
        have h9 := HN1.out
        have hCp : 0 < C := by have := HRC.out; omega
        have hul := Nat.mod_lt k hCp
        have hsum : k % C * R + k / C = trP R C k := rfl
        have a1 : ((k : Nat) : Int).tmod cc = ((k % C : Nat) : Int) := by rw [HC9.out, Int.tmod_eq_emod_of_nonneg (by omega)]; rfl
        have a5 : ((k : Nat) : Int).tdiv cc = ((k / C : Nat) : Int) := by rw [HC9.out]; exact Int.tdiv_eq_ediv_of_nonneg (by omega)
        obtain ⟨ku, hku⟩ : ∃ a, k % C = a := ⟨_, rfl⟩
        obtain ⟨kw, hkw⟩ : ∃ a, k / C = a := ⟨_, rfl⟩
        rw [hku] at a1 hsum hul
        rw [hkw] at a5 hsum
        clear hku hkw
        obtain ⟨kt, hkt⟩ : ∃ a, ku * R = a := ⟨_, rfl⟩
        have a3 : (ku : Int) * r = (kt : Int) := by rw [HR.out, ← hkt, Int.natCast_mul]
        rw [hkt] at hsum
        clear hkt
        obtain ⟨ks, hks⟩ : ∃ a, trP R C k = a := ⟨_, rfl⟩
        have HKS := hid hks
        rw [hks] at hsum htr
        clear hks
        have a2 : IntKind.i64.wrap (ku : Int) = (ku : Int) := wrapN (Nat.le_of_lt hul) (by have := HRC.out; omega : C < 5) (by omega)
        have a4 : IntKind.i64.wrap (kt : Int) = (kt : Int) := wrapN (by omega) htr (by omega)
        have a6 : IntKind.i64.wrap (kw : Int) = (kw : Int) := wrapN (by omega) htr (by omega)
        have a7 : (kt : Int) + (kw : Int) = (ks : Int) := by omega
        have a8 : IntKind.i64.wrap (ks : Int) = (ks : Int) := wrapN (Nat.le_refl _) htr (by omega)
        have HTR := hid htr; have HA1 := hid a1; have HA2 := hid a2; have HA3 := hid a3; have HA4 := hid a4; have HA5 := hid a5; have HA6 := hid a6; have HA7 := hid a7; have HA8 := hid a8; have HZ0 := hid hcc0; have HZ1 := hid hcc1
        clear hcc0 hcc1 a1 htr hsum h9 a2 a3 a4 a5 a6 a7 a8 hCp hul
        go_wp2_with fail
        refine wp_region_held_drew (S := fun V => Below (w.heap.size + 1) (w.alloc (.cells #[.int .i64 r, .int .i64 cc, .slice (some ⟨bp, op, none⟩) n c, .int .i64 sm, .slice q m d] 27)) V ∧ BoxIs bx #[.int .i64 cc, .int .i64 r, .slice (some ⟨gb, 0, none⟩) n n, .int .i64 sm, .slice q9 m d9] V) (by kernel_rfl) (⟨HBr.out.drew, HXr.out⟩) (fun hS => ?_)
        simp only [List.size_toArray, List.length_cons, List.length_nil, Nat.reduceAdd, Array.replicate_succ, Array.replicate_zero, List.push_toArray, List.nil_append, List.cons_append]
        refine wpAnyH_take (i := 0) (v := ?_) rfl (by kernel_rfl) (by kernel_rfl) (by kernel_rfl) (fun _ _ _ h => h) (Or.inl ⟨by rfl, fun V hV => ?_⟩) (by assumption) ?_
        rotate_left
        · go_simp
          try with_reducible rfl
        try simp only [Act.put, List.getElem_toArray, List.getElem_cons_zero, List.setIfInBounds_toArray, List.set_cons_zero, List.set_cons_succ]
        refine wpAnyH_take (i := 1) (v := ?_) rfl (by kernel_rfl) (by kernel_rfl) (by kernel_rfl) (fun _ _ _ h => h) (Or.inl ⟨by rfl, fun V hV => ?_⟩) (by assumption) ?_
        rotate_left
        · go_simp
          try with_reducible rfl
        try simp only [Act.put, List.getElem_toArray, List.getElem_cons_zero, List.getElem_cons_succ, List.setIfInBounds_toArray, List.set_cons_zero, List.set_cons_succ]
        refine wpAnyH_take (i := 2) (v := ?_) rfl (by kernel_rfl) (by kernel_rfl) (by kernel_rfl) (fun _ _ _ h => h) (Or.inl ⟨by rfl, fun V hV => ?_⟩) (by assumption) ?_
        rotate_left
        · have k2 := (hV.2.2 2 _ rfl).1; go_simp
          try with_reducible rfl
        try simp only [Act.put, List.getElem_toArray, List.getElem_cons_zero, List.getElem_cons_succ, List.setIfInBounds_toArray, List.set_cons_zero, List.set_cons_succ]
        refine wpAnyH_take (i := 3) (v := ?_) rfl (by kernel_rfl) (by kernel_rfl) (by kernel_rfl) (fun _ _ _ h => h) (Or.inl ⟨by rfl, fun V hV => ?_⟩) (by assumption) ?_
        rotate_left
        · go_simp
          try with_reducible rfl
        try simp only [Act.put, List.getElem_toArray, List.getElem_cons_zero, List.getElem_cons_succ, List.setIfInBounds_toArray, List.set_cons_zero, List.set_cons_succ]
        refine wpAnyH_take (i := 4) (v := ?_) rfl (by kernel_rfl) (by kernel_rfl) (by kernel_rfl) (fun _ _ _ h => h) (Or.inl ⟨by rfl, fun V hV => ?_⟩) (by assumption) ?_
        rotate_left
        · go_simp
          try with_reducible rfl
        try simp only [Act.put, List.getElem_toArray, List.getElem_cons_zero, List.getElem_cons_succ, List.setIfInBounds_toArray, List.set_cons_zero, List.set_cons_succ]
        refine wpAnyH_take (i := 5) (v := ?_) rfl (by kernel_rfl) (by kernel_rfl) (by kernel_rfl) (fun _ _ _ h => h) (Or.inl ⟨by rfl, fun V hV => ?_⟩) (by assumption) ?_
        rotate_left
        · go_simp
          try with_reducible rfl
        try simp only [Act.put, List.getElem_toArray, List.getElem_cons_zero, List.getElem_cons_succ, List.setIfInBounds_toArray, List.set_cons_zero, List.set_cons_succ]
        refine wpAnyH_take (i := 6) (v := ?_) rfl (by kernel_rfl) (by kernel_rfl) (by kernel_rfl) (fun _ _ _ h => h) (Or.inl ⟨by rfl, fun V hV => ?_⟩) (by assumption) ?_
        rotate_left
        · have g0 := (HSV.out V hV.1).c0; have g1 := (HSV.out V hV.1).c1; have g2 := (HSV.out V hV.1).c2; go_simp
          try with_reducible rfl
        try simp only [Act.put, List.getElem_toArray, List.getElem_cons_zero, List.getElem_cons_succ, List.setIfInBounds_toArray, List.set_cons_zero, List.set_cons_succ]
        refine wpAnyH_take (i := 7) (v := ?_) rfl (by kernel_rfl) (by kernel_rfl) (by kernel_rfl) (fun _ _ _ h => h) (Or.inl ⟨by rfl, fun V hV => ?_⟩) (by assumption) ?_
        rotate_left
        · have e1 := HA1.out; have e2 := HA2.out; have e3 := HZ0.out; have e4 := HZ1.out; go_simp
          try with_reducible rfl
        try simp only [Act.put, List.getElem_toArray, List.getElem_cons_zero, List.getElem_cons_succ, List.setIfInBounds_toArray, List.set_cons_zero, List.set_cons_succ]
        refine wpAnyH_take (i := 8) (v := ?_) rfl (by kernel_rfl) (by kernel_rfl) (by kernel_rfl) (fun _ _ _ h => h) (Or.inl ⟨by rfl, fun V hV => ?_⟩) (by assumption) ?_
        rotate_left
        · go_simp
          try with_reducible rfl
        try simp only [Act.put, List.getElem_toArray, List.getElem_cons_zero, List.getElem_cons_succ, List.setIfInBounds_toArray, List.set_cons_zero, List.set_cons_succ]
        refine wpAnyH_take (i := 9) (v := ?_) rfl (by kernel_rfl) (by kernel_rfl) (by kernel_rfl) (fun _ _ _ h => h) (Or.inl ⟨by rfl, fun V hV => ?_⟩) (by assumption) ?_
        rotate_left
        · go_simp
          try with_reducible rfl
        try simp only [Act.put, List.getElem_toArray, List.getElem_cons_zero, List.getElem_cons_succ, List.setIfInBounds_toArray, List.set_cons_zero, List.set_cons_succ]
        refine wpAnyH_take (i := 10) (v := ?_) rfl (by kernel_rfl) (by kernel_rfl) (by kernel_rfl) (fun _ _ _ h => h) (Or.inl ⟨by rfl, fun V hV => ?_⟩) (by assumption) ?_
        rotate_left
        · have g0 := (HSV.out V hV.1).c0; have g1 := (HSV.out V hV.1).c1; have g2 := (HSV.out V hV.1).c2; go_simp
          try with_reducible rfl
        try simp only [Act.put, List.getElem_toArray, List.getElem_cons_zero, List.getElem_cons_succ, List.setIfInBounds_toArray, List.set_cons_zero, List.set_cons_succ]
        refine wpAnyH_take (i := 11) (v := ?_) rfl (by kernel_rfl) (by kernel_rfl) (by kernel_rfl) (fun _ _ _ h => h) (Or.inl ⟨by rfl, fun V hV => ?_⟩) (by assumption) ?_
        rotate_left
        · have e1 := HA3.out; have e2 := HA4.out; go_simp
          try with_reducible rfl
        try simp only [Act.put, List.getElem_toArray, List.getElem_cons_zero, List.getElem_cons_succ, List.setIfInBounds_toArray, List.set_cons_zero, List.set_cons_succ]
        refine wpAnyH_take (i := 12) (v := ?_) rfl (by kernel_rfl) (by kernel_rfl) (by kernel_rfl) (fun _ _ _ h => h) (Or.inl ⟨by rfl, fun V hV => ?_⟩) (by assumption) ?_
        rotate_left
        · go_simp
          try with_reducible rfl
        try simp only [Act.put, List.getElem_toArray, List.getElem_cons_zero, List.getElem_cons_succ, List.setIfInBounds_toArray, List.set_cons_zero, List.set_cons_succ]
        refine wpAnyH_take (i := 13) (v := ?_) rfl (by kernel_rfl) (by kernel_rfl) (by kernel_rfl) (fun _ _ _ h => h) (Or.inl ⟨by rfl, fun V hV => ?_⟩) (by assumption) ?_
        rotate_left
        · go_simp
          try with_reducible rfl
        try simp only [Act.put, List.getElem_toArray, List.getElem_cons_zero, List.getElem_cons_succ, List.setIfInBounds_toArray, List.set_cons_zero, List.set_cons_succ]
        refine wpAnyH_take (i := 14) (v := ?_) rfl (by kernel_rfl) (by kernel_rfl) (by kernel_rfl) (fun _ _ _ h => h) (Or.inl ⟨by rfl, fun V hV => ?_⟩) (by assumption) ?_
        rotate_left
        · go_simp
          try with_reducible rfl
        try simp only [Act.put, List.getElem_toArray, List.getElem_cons_zero, List.getElem_cons_succ, List.setIfInBounds_toArray, List.set_cons_zero, List.set_cons_succ]
        refine wpAnyH_take (i := 15) (v := ?_) rfl (by kernel_rfl) (by kernel_rfl) (by kernel_rfl) (fun _ _ _ h => h) (Or.inl ⟨by rfl, fun V hV => ?_⟩) (by assumption) ?_
        rotate_left
        · have g0 := (HSV.out V hV.1).c0; have g1 := (HSV.out V hV.1).c1; have g2 := (HSV.out V hV.1).c2; go_simp
          try with_reducible rfl
        try simp only [Act.put, List.getElem_toArray, List.getElem_cons_zero, List.getElem_cons_succ, List.setIfInBounds_toArray, List.set_cons_zero, List.set_cons_succ]
        refine wpAnyH_take (i := 16) (v := ?_) rfl (by kernel_rfl) (by kernel_rfl) (by kernel_rfl) (fun _ _ _ h => h) (Or.inl ⟨by rfl, fun V hV => ?_⟩) (by assumption) ?_
        rotate_left
        · have e1 := HA5.out; have e2 := HA6.out; have e3 := HZ0.out; have e4 := HZ1.out; go_simp
          try with_reducible rfl
        try simp only [Act.put, List.getElem_toArray, List.getElem_cons_zero, List.getElem_cons_succ, List.setIfInBounds_toArray, List.set_cons_zero, List.set_cons_succ]
        refine wpAnyH_take (i := 17) (v := ?_) rfl (by kernel_rfl) (by kernel_rfl) (by kernel_rfl) (fun _ _ _ h => h) (Or.inl ⟨by rfl, fun V hV => ?_⟩) (by assumption) ?_
        rotate_left
        · have e1 := HA7.out; have e2 := HA8.out; go_simp
          try with_reducible rfl
        try simp only [Act.put, List.getElem_toArray, List.getElem_cons_zero, List.getElem_cons_succ, List.setIfInBounds_toArray, List.set_cons_zero, List.set_cons_succ]
        refine wpAnyH_take (i := 18) (v := ?_) rfl (by kernel_rfl) (by kernel_rfl) (by kernel_rfl) (fun _ _ _ h => h) (Or.inl ⟨by rfl, fun V hV => ?_⟩) (by assumption) ?_
        rotate_left
        · go_simp
          try with_reducible rfl
        try simp only [Act.put, List.getElem_toArray, List.getElem_cons_zero, List.getElem_cons_succ, List.setIfInBounds_toArray, List.set_cons_zero, List.set_cons_succ]
        refine wpAnyH_take (i := 19) (v := ?_) rfl (by kernel_rfl) (by kernel_rfl) (by kernel_rfl) (fun _ _ _ h => h) (Or.inl ⟨by rfl, fun V hV => ?_⟩) (by assumption) ?_
        rotate_left
        · go_simp
          try with_reducible rfl
        try simp only [Act.put, List.getElem_toArray, List.getElem_cons_zero, List.getElem_cons_succ, List.setIfInBounds_toArray, List.set_cons_zero, List.set_cons_succ]
        refine wpAnyH_take (i := 20) (v := ?_) rfl (by kernel_rfl) (by kernel_rfl) (by kernel_rfl) (fun _ _ _ h => h) (Or.inl ⟨by rfl, fun V hV => ?_⟩) (by assumption) ?_
        rotate_left
        · have g0 := (HSV.out V hV.1).c0; have g1 := (HSV.out V hV.1).c1; have g2 := (HSV.out V hV.1).c2; go_simp
          try with_reducible rfl
        try simp only [Act.put, List.getElem_toArray, List.getElem_cons_zero, List.getElem_cons_succ, List.setIfInBounds_toArray, List.set_cons_zero, List.set_cons_succ]
        refine wpAnyH_take (i := 21) (v := ?_) rfl (by kernel_rfl) (by kernel_rfl) (by kernel_rfl) (fun _ _ _ h => h) (Or.inl ⟨by rfl, fun V hV => ?_⟩) (by assumption) ?_
        rotate_left
        · go_simp
          try with_reducible rfl
        try simp only [Act.put, List.getElem_toArray, List.getElem_cons_zero, List.getElem_cons_succ, List.setIfInBounds_toArray, List.set_cons_zero, List.set_cons_succ]
        refine wpAnyH_take (i := 22) (v := ?_) rfl (by kernel_rfl) (by kernel_rfl) (by kernel_rfl) (fun _ _ _ h => h) (Or.inl ⟨by rfl, fun V hV => ?_⟩) (by assumption) ?_
        rotate_left
        · have e1 : (k : Int) < n := (by have := HLK.out; omega); go_simp
          try with_reducible rfl
        try simp only [Act.put, List.getElem_toArray, List.getElem_cons_zero, List.getElem_cons_succ, List.setIfInBounds_toArray, List.set_cons_zero, List.set_cons_succ]
        refine wpAnyH_take (i := 23) (v := ?_) rfl (by kernel_rfl) (by kernel_rfl) (by kernel_rfl) (fun _ _ _ h => h) (Or.inl ⟨by rfl, fun V hV => ?_⟩) (by assumption) ?_
        rotate_left
        · have c3 : V.cell? ⟨bp, op + k, none⟩ = some (.int .i64 z) := (by obtain ⟨b8, o8, e8, h8⟩ := (HSV.out V hV.1).ints.2 k HLK.out; cases e8; rw [HZ.out] at h8; exact h8); go_simp
          try with_reducible rfl
        try simp only [Act.put, List.getElem_toArray, List.getElem_cons_zero, List.getElem_cons_succ, List.setIfInBounds_toArray, List.set_cons_zero, List.set_cons_succ]
        refine wpAnyH_take (i := 24) (v := ?_) rfl (by kernel_rfl) (by kernel_rfl) (by kernel_rfl) (fun _ _ _ h => h) (Or.inl ⟨by rfl, fun V hV => ?_⟩) (by assumption) ?_
        rotate_left
        · have e1 : (ks : Int) < n := (by have := HTR.out; omega); go_simp
          try with_reducible rfl
        try simp only [Act.put, List.getElem_toArray, List.getElem_cons_zero, List.getElem_cons_succ, List.setIfInBounds_toArray, List.set_cons_zero, List.set_cons_succ]
        refine wpAnyH_ready (rs := [25]) (by kernel_rfl) (by simp) ?_
        refine AllReadyH.cons (o := _) rfl (fun K hK => ?_) AllReadyH.nil
        have hx : BoxIs bx #[.int .i64 cc, .int .i64 r, .slice (some ⟨gb, 0, none⟩) n n, .int .i64 sm, .slice q9 m d9] wr.drew := HXr.out; have hg : BoxIs gb (intsV (turnT R C l k)) wr.drew := HGr.out; have ho : OwnRef wr.drew N (.slice q9 m d9) cs := HOr.out; have hB := hS.1
        obtain ⟨z0, kc, kf⟩ := hg.intAt (j := ks) (by rw [turnT_len, ← HNL.out]; exact HTR.out)
        go_simp
        obtain ⟨Y9, hY9⟩ : ∃ V, (wr.setCell ⟨gb, ks, none⟩ (.int .i64 z)).drew = V := ⟨_, rfl⟩
        replace hx := hx.other (k' := ks) HLN.out.2.2.1 (.int .i64 z); replace hg := hg.setInt (j := ks) z; replace ho := row_block ho (fun u hu => Below.heap_setCell _ ⟨gb, ks, none⟩ (.int .i64 z) u (by have h1 := (World.ownsRow.lt ho u hu).1; have h2 := HLN.out; show u ≠ gb; omega)); replace hB := hB.setCell (p := ⟨gb, ks, none⟩) HLN.out.2.2.2.2.2 (.int .i64 z)
        rw [← HKS.out, turnT_set HTO.out.len (by rw [← HNL.out]; exact HLK.out) HZ.out] at hg
        rw [HKS.out] at hg
        have HXY : Hid (BoxIs bx #[.int .i64 cc, .int .i64 r, .slice (some ⟨gb, 0, none⟩) n n, .int .i64 sm, .slice q9 m d9] Y9) := by rw [← hY9]; exact hx
        have HGY : Hid (BoxIs gb (intsV (turnT R C l (k + 1))) Y9) := by rw [← hY9]; exact hg
        have HOY : Hid (OwnRef Y9 N (.slice q9 m d9) cs) := by rw [← hY9]; exact ho
        have HBY : Hid (Below (w.heap.size + 1) (w.alloc (.cells #[.int .i64 r, .int .i64 cc, .slice (some ⟨bp, op, none⟩) n c, .int .i64 sm, .slice q m d] 27)) Y9) := by rw [← hY9]; exact hB
        rw [hY9]
        clear kc kf hY9 hx hg ho hB
        have hx := HXY.out; have hg := HGY.out; have ho := HOY.out; have hB := HBY.out
        refine hK.out _ _ (⟨hB, hx⟩) (fun hS => ?_)
        clear hK K
        try simp only [List.setIfInBounds_toArray, List.set_cons_zero, List.set_cons_succ]
        refine wpAnyH_done (by kernel_rfl) ?_ _
        clear hS
        have h9 := HN1.out
        have hk9 : (k : Int) ≤ 9 := by omega
        go_wp2
        go_roundw
        case rel => exact ⟨k + 1, by omega, by go_num, hx, hg, ho, hB⟩
        case measure => simp [intOf]; omega
      · skip
        have hkn : k = n := by omega
        have hg := HGr.out
        rw [hkn, show turnT R C l n = L2 by rw [HNL.out, turnT_end HTO.out.len, HL2.out]] at hg
        have HG2 := hid hg
        clear hg g2
        have hlti : ¬ (k : Int) < n := by omega
        clear hlt hk HGr
        obtain ⟨w9, hw9⟩ : ∃ a, wr = a := ⟨_, rfl⟩
        rw [hw9] at HSr HXr HG2 HOr HBr ⊢
        clear hw9
        have g2 := HSr.out.c2
        go_wp2_with fail
        clear hlti hkn g2
        go_loopw [7, 8] (fun i _ wr => ∃ j : Nat, j ≤ m ∧ i = .int .i64 j ∧ BoxIs bx #[.int .i64 cc, .int .i64 r, .slice (some ⟨gb, 0, none⟩) n n, .int .i64 sm, .slice q9 m d9] wr ∧ BoxIs gb (intsV L2) wr ∧ OwnRef wr N (.slice q9 m d9) (turnCs R C cs j) ∧ Below (w.heap.size + 1) (w.alloc (.cells #[.int .i64 r, .int .i64 cc, .slice (some ⟨bp, op, none⟩) n c, .int .i64 sm, .slice q m d] 27)) wr) (fun i _ _ => m - (intOf i).toNat)
        case atStart => exact ⟨0, by omega, rfl, HXr.out, HG2.out, by rw [turnCs_zero]; exact HOr.out, HBr.out⟩
        case round =>
          clear HSr HXr HOr HBr HG2
          obtain ⟨j, hj, rfl, hx, hg, ho, hB⟩ := hrel
          have HSv := hid (HSV.out _ hB)
          have HXv := hid hx; have HGv := hid hg; have HOv := hid ho; have HBv := hid hB
          clear hx hg ho hB
          have k4 := (HXv.out.2 4 _ rfl).1
          by_cases hlt : j < m
          · skip
            obtain ⟨x, hx0⟩ : ∃ a, cs[j]? = some a := ⟨cs[j]'(by rw [← HML.out]; exact hlt), List.getElem?_eq_getElem _⟩
            have HX0 := hid hx0
            have HLK := hid hlt
            have hpl := HTO.out.place (List.mem_of_getElem? hx0)
            obtain ⟨kp, hkp⟩ : ∃ a : Nat, x.place = (a : Int) := ⟨x.place.toNat, by omega⟩
            have HKP := hid hkp
            have HKN : Hid (kp < n) := by show kp < n; rw [HNRC.out]; omega
            clear hpl hkp hx0
            obtain ⟨g9, hq9⟩ : ∃ g9, q9 = some ⟨g9, 0, none⟩ := by
              rcases HOv.out.2 with ⟨e, h0⟩ | ⟨g9, cap, cur, e, _⟩
              · injection e with _ e2 _; omega
              · injection e with e1 _ _; exact ⟨g9, e1⟩
            subst hq9
            have hcc0 : ¬ cc = 0 := by have := HFF.out; omega
            have hcc1 : (cc == 0) = false := by simp [hcc0]
            have htr : trP R C kp < n := by rw [HNRC.out]; exact tr_lt (by rw [← HNRC.out]; exact HKN.out)
            have h9 := HN1.out
            have hCp : 0 < C := by have := HRC.out; omega
            have hul := Nat.mod_lt kp hCp
            have hsum : kp % C * R + kp / C = trP R C kp := rfl
            have a1 : ((kp : Nat) : Int).tmod cc = ((kp % C : Nat) : Int) := by rw [HC9.out, Int.tmod_eq_emod_of_nonneg (by omega)]; rfl
            have a5 : ((kp : Nat) : Int).tdiv cc = ((kp / C : Nat) : Int) := by rw [HC9.out]; exact Int.tdiv_eq_ediv_of_nonneg (by omega)
            obtain ⟨ku, hku⟩ : ∃ a, kp % C = a := ⟨_, rfl⟩
            obtain ⟨kw, hkw⟩ : ∃ a, kp / C = a := ⟨_, rfl⟩
            rw [hku] at a1 hsum hul
            rw [hkw] at a5 hsum
            clear hku hkw
            obtain ⟨kt, hkt⟩ : ∃ a, ku * R = a := ⟨_, rfl⟩
            have a3 : (ku : Int) * r = (kt : Int) := by rw [HR.out, ← hkt, Int.natCast_mul]
            rw [hkt] at hsum
            clear hkt
            obtain ⟨ks, hks⟩ : ∃ a, trP R C kp = a := ⟨_, rfl⟩
            have HKS := hid hks
            rw [hks] at hsum htr
            clear hks
            have a2 : IntKind.i64.wrap (ku : Int) = (ku : Int) := wrapN (Nat.le_of_lt hul) (by have := HRC.out; omega : C < 5) (by omega)
            have a4 : IntKind.i64.wrap (kt : Int) = (kt : Int) := wrapN (by omega) htr (by omega)
            have a6 : IntKind.i64.wrap (kw : Int) = (kw : Int) := wrapN (by omega) htr (by omega)
            have a7 : (kt : Int) + (kw : Int) = (ks : Int) := by omega
            have a8 : IntKind.i64.wrap (ks : Int) = (ks : Int) := wrapN (Nat.le_refl _) htr (by omega)
            have HTR := hid htr; have HA1 := hid a1; have HA2 := hid a2; have HA3 := hid a3; have HA4 := hid a4; have HA5 := hid a5; have HA6 := hid a6; have HA7 := hid a7; have HA8 := hid a8; have HZ0 := hid hcc0; have HZ1 := hid hcc1
            clear hcc0 hcc1 a1 htr hsum h9 a2 a3 a4 a5 a6 a7 a8 hCp hul
            have hcx : CntsAt wr (some ⟨g9, 0, none⟩) m (turnCs R C cs j) := by
              obtain ⟨p7, c9, e7, h7⟩ := HOv.out.slice
              rw [turnCs_len, ← HML.out] at e7 h7
              cases e7
              exact h7
            have c5 : wr.cell? ⟨g9, j * 4, none⟩ = some (.int .i64 kp) := by
              obtain ⟨b8, o8, e8, _, h8, _⟩ := hcx.2 j x (turnCs_at HX0.out)
              cases e8
              rw [Nat.zero_add, HKP.out] at h8
              exact h8
            have hjm : (j : Int) < m := by omega
            clear hcx
            go_wp2_with fail
            clear c5 hjm k4
            refine wp_region_held_drew (S := fun V => Below (w.heap.size + 1) (w.alloc (.cells #[.int .i64 r, .int .i64 cc, .slice (some ⟨bp, op, none⟩) n c, .int .i64 sm, .slice q m d] 27)) V ∧ BoxIs bx #[.int .i64 cc, .int .i64 r, .slice (some ⟨gb, 0, none⟩) n n, .int .i64 sm, .slice (some ⟨g9, 0, none⟩) m d9] V) (by kernel_rfl) (⟨HBv.out.drew, HXv.out⟩) (fun hS => ?_)
            simp only [List.size_toArray, List.length_cons, List.length_nil, Nat.reduceAdd, Array.replicate_succ, Array.replicate_zero, List.push_toArray, List.nil_append, List.cons_append]
            refine wpAnyH_take (i := 0) (v := ?_) rfl (by kernel_rfl) (by kernel_rfl) (by kernel_rfl) (fun _ _ _ h => h) (Or.inl ⟨by rfl, fun V hV => ?_⟩) (by assumption) ?_
            rotate_left
            · go_simp
              try with_reducible rfl
            try simp only [Act.put, List.getElem_toArray, List.getElem_cons_zero, List.setIfInBounds_toArray, List.set_cons_zero, List.set_cons_succ]
            refine wpAnyH_take (i := 1) (v := ?_) rfl (by kernel_rfl) (by kernel_rfl) (by kernel_rfl) (fun _ _ _ h => h) (Or.inl ⟨by rfl, fun V hV => ?_⟩) (by assumption) ?_
            rotate_left
            · have k4 := (hV.2.2 4 _ rfl).1; go_simp
              try with_reducible rfl
            try simp only [Act.put, List.getElem_toArray, List.getElem_cons_zero, List.getElem_cons_succ, List.setIfInBounds_toArray, List.set_cons_zero, List.set_cons_succ]
            refine wpAnyH_take (i := 2) (v := ?_) rfl (by kernel_rfl) (by kernel_rfl) (by kernel_rfl) (fun _ _ _ h => h) (Or.inl ⟨by rfl, fun V hV => ?_⟩) (by assumption) ?_
            rotate_left
            · go_simp
              try with_reducible rfl
            try simp only [Act.put, List.getElem_toArray, List.getElem_cons_zero, List.getElem_cons_succ, List.setIfInBounds_toArray, List.set_cons_zero, List.set_cons_succ]
            refine wpAnyH_take (i := 3) (v := ?_) rfl (by kernel_rfl) (by kernel_rfl) (by kernel_rfl) (fun _ _ _ h => h) (Or.inl ⟨by rfl, fun V hV => ?_⟩) (by assumption) ?_
            rotate_left
            · go_simp
              try with_reducible rfl
            try simp only [Act.put, List.getElem_toArray, List.getElem_cons_zero, List.getElem_cons_succ, List.setIfInBounds_toArray, List.set_cons_zero, List.set_cons_succ]
            refine wpAnyH_take (i := 4) (v := ?_) rfl (by kernel_rfl) (by kernel_rfl) (by kernel_rfl) (fun _ _ _ h => h) (Or.inl ⟨by rfl, fun V hV => ?_⟩) (by assumption) ?_
            rotate_left
            · go_simp
              try with_reducible rfl
            try simp only [Act.put, List.getElem_toArray, List.getElem_cons_zero, List.getElem_cons_succ, List.setIfInBounds_toArray, List.set_cons_zero, List.set_cons_succ]
            refine wpAnyH_take (i := 5) (v := ?_) rfl (by kernel_rfl) (by kernel_rfl) (by kernel_rfl) (fun _ _ _ h => h) (Or.inl ⟨by rfl, fun V hV => ?_⟩) (by assumption) ?_
            rotate_left
            · go_simp
              try with_reducible rfl
            try simp only [Act.put, List.getElem_toArray, List.getElem_cons_zero, List.getElem_cons_succ, List.setIfInBounds_toArray, List.set_cons_zero, List.set_cons_succ]
            refine wpAnyH_take (i := 6) (v := ?_) rfl (by kernel_rfl) (by kernel_rfl) (by kernel_rfl) (fun _ _ _ h => h) (Or.inl ⟨by rfl, fun V hV => ?_⟩) (by assumption) ?_
            rotate_left
            · have g0 := (HSV.out V hV.1).c0; have g1 := (HSV.out V hV.1).c1; have g2 := (HSV.out V hV.1).c2; go_simp
              try with_reducible rfl
            try simp only [Act.put, List.getElem_toArray, List.getElem_cons_zero, List.getElem_cons_succ, List.setIfInBounds_toArray, List.set_cons_zero, List.set_cons_succ]
            refine wpAnyH_take (i := 7) (v := ?_) rfl (by kernel_rfl) (by kernel_rfl) (by kernel_rfl) (fun _ _ _ h => h) (Or.inl ⟨by rfl, fun V hV => ?_⟩) (by assumption) ?_
            rotate_left
            · have e1 := HA1.out; have e2 := HA2.out; have e3 := HZ0.out; have e4 := HZ1.out; go_simp
              try with_reducible rfl
            try simp only [Act.put, List.getElem_toArray, List.getElem_cons_zero, List.getElem_cons_succ, List.setIfInBounds_toArray, List.set_cons_zero, List.set_cons_succ]
            refine wpAnyH_take (i := 8) (v := ?_) rfl (by kernel_rfl) (by kernel_rfl) (by kernel_rfl) (fun _ _ _ h => h) (Or.inl ⟨by rfl, fun V hV => ?_⟩) (by assumption) ?_
            rotate_left
            · go_simp
              try with_reducible rfl
            try simp only [Act.put, List.getElem_toArray, List.getElem_cons_zero, List.getElem_cons_succ, List.setIfInBounds_toArray, List.set_cons_zero, List.set_cons_succ]
            refine wpAnyH_take (i := 9) (v := ?_) rfl (by kernel_rfl) (by kernel_rfl) (by kernel_rfl) (fun _ _ _ h => h) (Or.inl ⟨by rfl, fun V hV => ?_⟩) (by assumption) ?_
            rotate_left
            · go_simp
              try with_reducible rfl
            try simp only [Act.put, List.getElem_toArray, List.getElem_cons_zero, List.getElem_cons_succ, List.setIfInBounds_toArray, List.set_cons_zero, List.set_cons_succ]
            refine wpAnyH_take (i := 10) (v := ?_) rfl (by kernel_rfl) (by kernel_rfl) (by kernel_rfl) (fun _ _ _ h => h) (Or.inl ⟨by rfl, fun V hV => ?_⟩) (by assumption) ?_
            rotate_left
            · have g0 := (HSV.out V hV.1).c0; have g1 := (HSV.out V hV.1).c1; have g2 := (HSV.out V hV.1).c2; go_simp
              try with_reducible rfl
            try simp only [Act.put, List.getElem_toArray, List.getElem_cons_zero, List.getElem_cons_succ, List.setIfInBounds_toArray, List.set_cons_zero, List.set_cons_succ]
            refine wpAnyH_take (i := 11) (v := ?_) rfl (by kernel_rfl) (by kernel_rfl) (by kernel_rfl) (fun _ _ _ h => h) (Or.inl ⟨by rfl, fun V hV => ?_⟩) (by assumption) ?_
            rotate_left
            · have e1 := HA3.out; have e2 := HA4.out; go_simp
              try with_reducible rfl
            try simp only [Act.put, List.getElem_toArray, List.getElem_cons_zero, List.getElem_cons_succ, List.setIfInBounds_toArray, List.set_cons_zero, List.set_cons_succ]
            refine wpAnyH_take (i := 12) (v := ?_) rfl (by kernel_rfl) (by kernel_rfl) (by kernel_rfl) (fun _ _ _ h => h) (Or.inl ⟨by rfl, fun V hV => ?_⟩) (by assumption) ?_
            rotate_left
            · go_simp
              try with_reducible rfl
            try simp only [Act.put, List.getElem_toArray, List.getElem_cons_zero, List.getElem_cons_succ, List.setIfInBounds_toArray, List.set_cons_zero, List.set_cons_succ]
            refine wpAnyH_take (i := 13) (v := ?_) rfl (by kernel_rfl) (by kernel_rfl) (by kernel_rfl) (fun _ _ _ h => h) (Or.inl ⟨by rfl, fun V hV => ?_⟩) (by assumption) ?_
            rotate_left
            · go_simp
              try with_reducible rfl
            try simp only [Act.put, List.getElem_toArray, List.getElem_cons_zero, List.getElem_cons_succ, List.setIfInBounds_toArray, List.set_cons_zero, List.set_cons_succ]
            refine wpAnyH_take (i := 14) (v := ?_) rfl (by kernel_rfl) (by kernel_rfl) (by kernel_rfl) (fun _ _ _ h => h) (Or.inl ⟨by rfl, fun V hV => ?_⟩) (by assumption) ?_
            rotate_left
            · go_simp
              try with_reducible rfl
            try simp only [Act.put, List.getElem_toArray, List.getElem_cons_zero, List.getElem_cons_succ, List.setIfInBounds_toArray, List.set_cons_zero, List.set_cons_succ]
            refine wpAnyH_take (i := 15) (v := ?_) rfl (by kernel_rfl) (by kernel_rfl) (by kernel_rfl) (fun _ _ _ h => h) (Or.inl ⟨by rfl, fun V hV => ?_⟩) (by assumption) ?_
            rotate_left
            · have g0 := (HSV.out V hV.1).c0; have g1 := (HSV.out V hV.1).c1; have g2 := (HSV.out V hV.1).c2; go_simp
              try with_reducible rfl
            try simp only [Act.put, List.getElem_toArray, List.getElem_cons_zero, List.getElem_cons_succ, List.setIfInBounds_toArray, List.set_cons_zero, List.set_cons_succ]
            refine wpAnyH_take (i := 16) (v := ?_) rfl (by kernel_rfl) (by kernel_rfl) (by kernel_rfl) (fun _ _ _ h => h) (Or.inl ⟨by rfl, fun V hV => ?_⟩) (by assumption) ?_
            rotate_left
            · have e1 := HA5.out; have e2 := HA6.out; have e3 := HZ0.out; have e4 := HZ1.out; go_simp
              try with_reducible rfl
            try simp only [Act.put, List.getElem_toArray, List.getElem_cons_zero, List.getElem_cons_succ, List.setIfInBounds_toArray, List.set_cons_zero, List.set_cons_succ]
            refine wpAnyH_take (i := 17) (v := ?_) rfl (by kernel_rfl) (by kernel_rfl) (by kernel_rfl) (fun _ _ _ h => h) (Or.inl ⟨by rfl, fun V hV => ?_⟩) (by assumption) ?_
            rotate_left
            · have e1 := HA7.out; have e2 := HA8.out; go_simp
              try with_reducible rfl
            try simp only [Act.put, List.getElem_toArray, List.getElem_cons_zero, List.getElem_cons_succ, List.setIfInBounds_toArray, List.set_cons_zero, List.set_cons_succ]
            refine wpAnyH_take (i := 18) (v := ?_) rfl (by kernel_rfl) (by kernel_rfl) (by kernel_rfl) (fun _ _ _ h => h) (Or.inl ⟨by rfl, fun V hV => ?_⟩) (by assumption) ?_
            rotate_left
            · have e1 : (j : Int) < m := (by have := HLK.out; omega); go_simp
              try with_reducible rfl
            try simp only [Act.put, List.getElem_toArray, List.getElem_cons_zero, List.getElem_cons_succ, List.setIfInBounds_toArray, List.set_cons_zero, List.set_cons_succ]
            refine wpAnyH_take (i := 19) (v := ?_) rfl (by kernel_rfl) (by kernel_rfl) (by kernel_rfl) (fun _ _ _ h => h) (Or.inl ⟨by rfl, fun V hV => ?_⟩) (by assumption) ?_
            rotate_left
            · go_simp
              try with_reducible rfl
            try simp only [Act.put, List.getElem_toArray, List.getElem_cons_zero, List.getElem_cons_succ, List.setIfInBounds_toArray, List.set_cons_zero, List.set_cons_succ]
            refine wpAnyH_ready (rs := [20]) (by kernel_rfl) (by simp) ?_
            refine AllReadyH.cons (o := _) rfl (fun K hK => ?_) AllReadyH.nil
            have hx : BoxIs bx #[.int .i64 cc, .int .i64 r, .slice (some ⟨gb, 0, none⟩) n n, .int .i64 sm, .slice (some ⟨g9, 0, none⟩) m d9] wr.drew := HXv.out; have hg : BoxIs gb (intsV L2) wr.drew := HGv.out; have ho : OwnRef wr.drew N (.slice (some ⟨g9, 0, none⟩) m d9) (turnCs R C cs j) := HOv.out; have hB := hS.1
            have kc : (wr.drew).cell? ⟨g9, j * 4, none⟩ = some (.int .i64 x.place) := by obtain ⟨p7, c9, e7, h7⟩ := ho.slice; rw [turnCs_len, ← HML.out] at e7 h7; cases e7; obtain ⟨b8, o8, e8, _, h8, _⟩ := h7.2 j x (turnCs_at HX0.out); cases e8; rw [Nat.zero_add] at h8; exact h8
            have kf : (wr.drew).frozen? ⟨g9, j * 4, none⟩ = false := by have h8 := ho; unfold OwnRef at h8; rw [turnCs_len, ← HML.out] at h8; exact World.ownsRow.frozenAt h8 _
            go_simp
            obtain ⟨Y9, hY9⟩ : ∃ V, (wr.setCell ⟨g9, j * 4, none⟩ (.int .i64 (ks : Int))).drew = V := ⟨_, rfl⟩
            have hg9 : N ≤ g9 := (World.ownsRow.lt ho _ rfl).1
            replace hx := hx.other (k' := j * 4) (b' := g9) (by have := HLN.out; omega) (.int .i64 (ks : Int)); replace hg := hg.other (k' := j * 4) (b' := g9) (by have := HLN.out; omega) (.int .i64 (ks : Int)); replace ho := ho.place (k := j) (by rw [turnCs_len]; exact HML.out) (by rw [turnCs_len, ← HML.out]; exact HLK.out) (ks : Int); replace hB := hB.setCell (p := ⟨g9, j * 4, none⟩) (by have := HLN.out; show w.heap.size + 1 ≤ g9; omega) (.int .i64 (ks : Int))
            have ho9 : OwnRef ((wr.drew).setCell ⟨g9, j * 4, none⟩ (.int .i64 (ks : Int))) N (.slice (some ⟨g9, 0, none⟩) m d9) (turnCs R C cs (j + 1)) := by have h8 := place_turn (R := R) (C := C) HX0.out; rw [HKP.out, Int.toNat_natCast, HKS.out] at h8; rw [← h8]; exact ho
            clear ho
            have ho := ho9
            clear ho9
            have HXY : Hid (BoxIs bx #[.int .i64 cc, .int .i64 r, .slice (some ⟨gb, 0, none⟩) n n, .int .i64 sm, .slice (some ⟨g9, 0, none⟩) m d9] Y9) := by rw [← hY9]; exact hx
            have HGY : Hid (BoxIs gb (intsV L2) Y9) := by rw [← hY9]; exact hg
            have HOY : Hid (OwnRef Y9 N (.slice (some ⟨g9, 0, none⟩) m d9) (turnCs R C cs (j + 1))) := by rw [← hY9]; exact ho
            have HBY : Hid (Below (w.heap.size + 1) (w.alloc (.cells #[.int .i64 r, .int .i64 cc, .slice (some ⟨bp, op, none⟩) n c, .int .i64 sm, .slice q m d] 27)) Y9) := by rw [← hY9]; exact hB
            rw [hY9]
            clear kc kf hY9 hg9 hx hg ho hB
            have hx := HXY.out; have hg := HGY.out; have ho := HOY.out; have hB := HBY.out
            refine hK.out _ _ (⟨hB, hx⟩) (fun hS => ?_)
            clear hK K
            try simp only [List.setIfInBounds_toArray, List.set_cons_zero, List.set_cons_succ]
            refine wpAnyH_done (by kernel_rfl) ?_ _
            clear hS
            have h9 := HN.out
            have hk9 : (j : Int) ≤ 9 := by omega
            go_wp2
            go_roundw
            case rel => exact ⟨j + 1, by omega, by go_num, hx, hg, ho, hB⟩
            case measure => simp [intOf]; omega
          · skip
            have hjn : j = m := by omega
            have ho := HOv.out
            rw [hjn, show turnCs R C cs m = C2 by rw [HML.out, turnCs_end, HC2.out]] at ho
            have hcx : CntsAt wr q9 m C2 := by
              obtain ⟨p7, c9, e7, h7⟩ := ho.slice
              rw [HC2N.out] at e7 h7
              cases e7
              exact h7
            have hix : IntsAt wr (some ⟨gb, 0, none⟩) n L2 := by
              have h := HGv.out.ints
              rw [HL2N.out] at h
              exact h
            have hzx := HXv.out.sbox hix hcx
            clear hix hcx ho hjn k4
            have hlti : ¬ (j : Int) < m := by omega
            clear hlt hj
            obtain ⟨w10, hw10⟩ : ∃ a, wr = a := ⟨_, rfl⟩
            have HX10 := hid hzx
            clear hzx
            rw [hw10] at HSv HX10 ⊢
            clear hw10 HXv HGv HOv HBv
            have HS10 := hid HSv.out
            clear HSv
            have g0 := HS10.out.c0; have g1 := HS10.out.c1; have g2 := HS10.out.c2; have g3 := HS10.out.c3; have g4 := HS10.out.c4
            have x0 := HX10.out.c0; have x1 := HX10.out.c1; have x2 := HX10.out.c2; have x3 := HX10.out.c3; have x4 := HX10.out.c4
            have e2 : IntKind.i64.wrap y = y := IntWalk.i64_in _ (by have := HY.out; omega)
            obtain ⟨n0, hn0⟩ : ∃ a, y % 101 = a := ⟨_, rfl⟩
            have HNB : Hid (0 ≤ n0 ∧ n0 ≤ 100) := by show _ ∧ _; omega
            have e3 : y.tmod 101 = n0 := (by rw [Int.tmod_eq_emod_of_nonneg HY.out.1]; exact hn0)
            have e4 : IntKind.i64.wrap n0 = n0 := IntWalk.i64_in _ (by have := HNB.out; omega)
            clear hn0
            go_wp2_with fail
            clear e2 e3 e4 hlti
            have hia : inB n0 0 100 = true := by have := HNB.out; simp [inB]; omega
            have HIA := hid hia
            clear hia
            have hp1 : partE r cc l sm cs n0 = 0 := by rw [partE, if_pos HF.out, if_pos HIA.out]
            have hp2 : partE cc r L2 sm C2 n0 = 0 := by rw [partE, if_pos HF2.out, if_pos HIA.out]
            have HP1 := hid hp1; have HP2 := hid hp2
            clear hp1 hp2
            by_cases hG : genP (okP cs [] cc sm) l 0 [] = []
            · skip
              have hG2 := HNT.out.1 hG
              obtain ⟨zl, hzl⟩ : ∃ z : Int, z = 0 := ⟨0, rfl⟩
              have hra := bnd_none (F := shareL l) HF.out hG
              rw [← hzl] at hra
              have HRA := hid hra
              have HRB := hid (HBT.out.trans hra)
              have hva : aboveR n0 r cc l sm cs = (zl, 9) := by rw [aboveR, if_pos HP1.out, hG, hzl]; rfl
              have HVA := hid hva; have HVB := hid ((HAT.out n0).trans hva)
              have hea : fewE r cc l sm cs n0 = 9 := by rw [fewE, if_pos HP1.out, if_pos hG]
              have HEA := hid hea; have HEB := hid ((HET.out n0).trans hea)
              have HG := hid hG; have HG2 := hid hG2
              clear hG hG2 hra hva hea hzl
              go_wp2_with fail
              refine (surveyX_any r cc (some ⟨bp, op, none⟩) n c l sm q m d cs _ HS10.out.ints HS10.out.cnts (by have := HN.out; omega) (by have := HN.out; omega)).mono ?_
              rintro e w11 ⟨p1, n1, c1, q1, m1, d1, rfl, hi3, hc3, hb⟩
              have HS11 := hid (HS10.out.step hb)
              have HX11 := hid (HX10.out.below hb)
              have HI11 := hid hi3; have HC11 := hid hc3; clear hi3 hc3
              have HL1 : Hid (n1 ≤ 12 ∧ m1 ≤ 9) := ⟨by have := HI11.out.1; have := HS11.out.ints.1; have := HN.out; omega, by have := HC11.out.1; have := HS11.out.cnts.1; have := HN.out; omega⟩
              clear hb g0 g1 g2 g3 g4
              have g0 := HS11.out.c0; have g1 := HS11.out.c1; have g2 := HS11.out.c2; have g3 := HS11.out.c3; have g4 := HS11.out.c4
              go_wp2_with fail
              refine (Bounds_any r cc p1 n1 c1 l sm q1 m1 d1 cs _ HI11.out HC11.out (by have := HL1.out; omega) (by have := HL1.out; omega)).mono ?_
              rintro e w12 ⟨rfl, hb⟩
              have HS12 := hid (HS11.out.step hb)
              have HX12 := hid (HX11.out.below hb)
              rw [HRA.out]
              clear hb g0 g1 g2 g3 g4
              have g0 := HS12.out.c0; have g1 := HS12.out.c1; have g2 := HS12.out.c2; have g3 := HS12.out.c3; have g4 := HS12.out.c4
              obtain ⟨w13, hw⟩ : ∃ z, w12.alloc (.cells #[.int .i64 zl, .int .i64 zl] 62) = z := ⟨_, rfl⟩
              have hb : Below w12.heap.size w12 w13 := by rw [← hw]; exact (Below.refl _ _).alloc (Nat.le_refl _) _
              have HS13 := hid (HS12.out.step hb)
              have HX13 := hid (HX12.out.below hb)
              have HTA13 : Hid (TwoAt w13 w12.heap.size zl zl) := by rw [← hw]; exact ⟨cell_box w12 _ 62 0 _ rfl, cell_box w12 _ 62 1 _ rfl⟩
              clear hb g0 g1 g2 g3 g4
              have g0 := HS13.out.c0; have g1 := HS13.out.c1; have g2 := HS13.out.c2; have g3 := HS13.out.c3; have g4 := HS13.out.c4
              have x0 := HX13.out.c0; have x1 := HX13.out.c1; have x2 := HX13.out.c2; have x3 := HX13.out.c3; have x4 := HX13.out.c4
              go_wp2_with fail
              refine (surveyX_any cc r (some ⟨gb, 0, none⟩) n n L2 sm q9 m d9 C2 _ HX13.out.ints HX13.out.cnts (by have := HN.out; omega) (by have := HN.out; omega)).mono ?_
              rintro e w14 ⟨p2, n2, c2, q2, m2, d2, rfl, hi3, hc3, hb⟩
              have HS14 := hid (HS13.out.step hb)
              have HX14 := hid (HX13.out.below hb)
              have HTA14 := hid (HTA13.out.below hb)
              have HI14 := hid hi3; have HC14 := hid hc3; clear hi3 hc3
              have HL2 : Hid (n2 ≤ 12 ∧ m2 ≤ 9) := ⟨by have := HI14.out.1; have := HX14.out.ints.1; have := HN.out; omega, by have := HC14.out.1; have := HX14.out.cnts.1; have := HN.out; omega⟩
              clear hb x0 x1 x2 x3 x4 g0 g1 g2 g3 g4
              have g0 := HS14.out.c0; have g1 := HS14.out.c1; have g2 := HS14.out.c2; have g3 := HS14.out.c3; have g4 := HS14.out.c4
              go_wp2_with fail
              refine (Bounds_any cc r p2 n2 c2 L2 sm q2 m2 d2 C2 _ HI14.out HC14.out (by have := HL2.out; omega) (by have := HL2.out; omega)).mono ?_
              rintro e w15 ⟨rfl, hb⟩
              have HS15 := hid (HS14.out.step hb)
              have HX15 := hid (HX14.out.below hb)
              have HTA15 := hid (HTA14.out.below hb)
              rw [HRB.out]
              clear hb g0 g1 g2 g3 g4
              have g0 := HS15.out.c0; have g1 := HS15.out.c1; have g2 := HS15.out.c2; have g3 := HS15.out.c3; have g4 := HS15.out.c4
              obtain ⟨w16, hw⟩ : ∃ z, w15.alloc (.cells #[.int .i64 zl, .int .i64 zl] 62) = z := ⟨_, rfl⟩
              have hb : Below w15.heap.size w15 w16 := by rw [← hw]; exact (Below.refl _ _).alloc (Nat.le_refl _) _
              have HS16 := hid (HS15.out.step hb)
              have HX16 := hid (HX15.out.below hb)
              have HTA16 := hid (HTA15.out.below hb)
              have HTB16 : Hid (TwoAt w16 w15.heap.size zl zl) := by rw [← hw]; exact ⟨cell_box w15 _ 62 0 _ rfl, cell_box w15 _ 62 1 _ rfl⟩
              clear hb g0 g1 g2 g3 g4
              have g0 := HS16.out.c0; have g1 := HS16.out.c1; have g2 := HS16.out.c2; have g3 := HS16.out.c3; have g4 := HS16.out.c4
              go_wp2_with fail
              refine (surveyX_any r cc (some ⟨bp, op, none⟩) n c l sm q m d cs _ HS16.out.ints HS16.out.cnts (by have := HN.out; omega) (by have := HN.out; omega)).mono ?_
              rintro e w17 ⟨p3, n3, c3, q3, m3, d3, rfl, hi3, hc3, hb⟩
              have HS17 := hid (HS16.out.step hb)
              have HX17 := hid (HX16.out.below hb)
              have HTA17 := hid (HTA16.out.below hb)
              have HTB17 := hid (HTB16.out.below hb)
              have HI17 := hid hi3; have HC17 := hid hc3; clear hi3 hc3
              have HL3 : Hid (n3 ≤ 12 ∧ m3 ≤ 9) := ⟨by have := HI17.out.1; have := HS17.out.ints.1; have := HN.out; omega, by have := HC17.out.1; have := HS17.out.cnts.1; have := HN.out; omega⟩
              clear hb g0 g1 g2 g3 g4
              have g0 := HS17.out.c0; have g1 := HS17.out.c1; have g2 := HS17.out.c2; have g3 := HS17.out.c3; have g4 := HS17.out.c4
              go_wp2_with fail
              refine (Above_any r cc p3 n3 c3 l sm q3 m3 d3 cs n0 _ HI17.out HC17.out (by have := HL3.out; omega) (by have := HL3.out; omega)).mono ?_
              rintro e w18 ⟨rfl, hb⟩
              have HS18 := hid (HS17.out.step hb)
              have HX18 := hid (HX17.out.below hb)
              have HTA18 := hid (HTA17.out.below hb)
              have HTB18 := hid (HTB17.out.below hb)
              rw [HVA.out]
              clear hb g0 g1 g2 g3 g4
              have g0 := HS18.out.c0; have g1 := HS18.out.c1; have g2 := HS18.out.c2; have g3 := HS18.out.c3; have g4 := HS18.out.c4
              have x0 := HX18.out.c0; have x1 := HX18.out.c1; have x2 := HX18.out.c2; have x3 := HX18.out.c3; have x4 := HX18.out.c4
              go_wp2_with fail
              refine (surveyX_any cc r (some ⟨gb, 0, none⟩) n n L2 sm q9 m d9 C2 _ HX18.out.ints HX18.out.cnts (by have := HN.out; omega) (by have := HN.out; omega)).mono ?_
              rintro e w19 ⟨p4, n4, c4, q4, m4, d4, rfl, hi3, hc3, hb⟩
              have HS19 := hid (HS18.out.step hb)
              have HX19 := hid (HX18.out.below hb)
              have HTA19 := hid (HTA18.out.below hb)
              have HTB19 := hid (HTB18.out.below hb)
              have HI19 := hid hi3; have HC19 := hid hc3; clear hi3 hc3
              have HL4 : Hid (n4 ≤ 12 ∧ m4 ≤ 9) := ⟨by have := HI19.out.1; have := HX19.out.ints.1; have := HN.out; omega, by have := HC19.out.1; have := HX19.out.cnts.1; have := HN.out; omega⟩
              clear hb x0 x1 x2 x3 x4 g0 g1 g2 g3 g4
              have g0 := HS19.out.c0; have g1 := HS19.out.c1; have g2 := HS19.out.c2; have g3 := HS19.out.c3; have g4 := HS19.out.c4
              go_wp2_with fail
              refine (Above_any cc r p4 n4 c4 L2 sm q4 m4 d4 C2 n0 _ HI19.out HC19.out (by have := HL4.out; omega) (by have := HL4.out; omega)).mono ?_
              rintro e w20 ⟨rfl, hb⟩
              have HS20 := hid (HS19.out.step hb)
              have HX20 := hid (HX19.out.below hb)
              have HTA20 := hid (HTA19.out.below hb)
              have HTB20 := hid (HTB19.out.below hb)
              rw [HVB.out]
              clear hb g0 g1 g2 g3 g4
              have g0 := HS20.out.c0; have g1 := HS20.out.c1; have g2 := HS20.out.c2; have g3 := HS20.out.c3; have g4 := HS20.out.c4
              go_wp2_with fail
              refine (surveyX_any r cc (some ⟨bp, op, none⟩) n c l sm q m d cs _ HS20.out.ints HS20.out.cnts (by have := HN.out; omega) (by have := HN.out; omega)).mono ?_
              rintro e w21 ⟨p5, n5, c5, q5, m5, d5, rfl, hi3, hc3, hb⟩
              have HS21 := hid (HS20.out.step hb)
              have HX21 := hid (HX20.out.below hb)
              have HTA21 := hid (HTA20.out.below hb)
              have HTB21 := hid (HTB20.out.below hb)
              have HI21 := hid hi3; have HC21 := hid hc3; clear hi3 hc3
              have HL5 : Hid (n5 ≤ 12 ∧ m5 ≤ 9) := ⟨by have := HI21.out.1; have := HS21.out.ints.1; have := HN.out; omega, by have := HC21.out.1; have := HS21.out.cnts.1; have := HN.out; omega⟩
              clear hb g0 g1 g2 g3 g4
              have g0 := HS21.out.c0; have g1 := HS21.out.c1; have g2 := HS21.out.c2; have g3 := HS21.out.c3; have g4 := HS21.out.c4
              go_wp2_with fail
              refine (Fewest_any r cc p5 n5 c5 l sm q5 m5 d5 cs n0 _ HI21.out HC21.out (by have := HL5.out; omega) (by have := HL5.out; omega)).mono ?_
              rintro e w22 ⟨pU, nU, cU, U, rfl, hx, hX, hb⟩
              have HS22 := hid (HS21.out.step hb)
              have HX22 := hid (HX21.out.below hb)
              have HTA22 := hid (HTA21.out.below hb)
              have HTB22 := hid (HTB21.out.below hb)
              rw [show (if partE r cc l sm cs n0 = 0 then (if genP (okP cs [] cc sm) l 0 [] = [] then 9 else 0) else partE r cc l sm cs n0) = 9 from HEA.out]
              have hU : U = [] := by have h9 : ite _ _ _ := hX; rw [if_neg (fun h => h.2 HG.out)] at h9; exact h9
              have HUP := hid hU
              clear hU
              have HUL : Hid (nU = U.length) := hx.1
              clear hx hX
              clear hb g0 g1 g2 g3 g4
              have g0 := HS22.out.c0; have g1 := HS22.out.c1; have g2 := HS22.out.c2; have g3 := HS22.out.c3; have g4 := HS22.out.c4
              have x0 := HX22.out.c0; have x1 := HX22.out.c1; have x2 := HX22.out.c2; have x3 := HX22.out.c3; have x4 := HX22.out.c4
              go_wp2_with fail
              refine (surveyX_any cc r (some ⟨gb, 0, none⟩) n n L2 sm q9 m d9 C2 _ HX22.out.ints HX22.out.cnts (by have := HN.out; omega) (by have := HN.out; omega)).mono ?_
              rintro e w23 ⟨p6, n6, c6, q6, m6, d6, rfl, hi3, hc3, hb⟩
              have HS23 := hid (HS22.out.step hb)
              have HX23 := hid (HX22.out.below hb)
              have HTA23 := hid (HTA22.out.below hb)
              have HTB23 := hid (HTB22.out.below hb)
              have HI23 := hid hi3; have HC23 := hid hc3; clear hi3 hc3
              have HL6 : Hid (n6 ≤ 12 ∧ m6 ≤ 9) := ⟨by have := HI23.out.1; have := HX23.out.ints.1; have := HN.out; omega, by have := HC23.out.1; have := HX23.out.cnts.1; have := HN.out; omega⟩
              clear hb x0 x1 x2 x3 x4 g0 g1 g2 g3 g4
              have g0 := HS23.out.c0; have g1 := HS23.out.c1; have g2 := HS23.out.c2; have g3 := HS23.out.c3; have g4 := HS23.out.c4
              go_wp2_with fail
              refine (Fewest_any cc r p6 n6 c6 L2 sm q6 m6 d6 C2 n0 _ HI23.out HC23.out (by have := HL6.out; omega) (by have := HL6.out; omega)).mono ?_
              rintro e w24 ⟨pV, nV, cV, V, rfl, hx, hX, hb⟩
              have HS24 := hid (HS23.out.step hb)
              have HX24 := hid (HX23.out.below hb)
              have HTA24 := hid (HTA23.out.below hb)
              have HTB24 := hid (HTB23.out.below hb)
              rw [show (if partE cc r L2 sm C2 n0 = 0 then (if genP (okP C2 [] r sm) L2 0 [] = [] then 9 else 0) else partE cc r L2 sm C2 n0) = 9 from HEB.out]
              have hV : V = [] := by have h9 : ite _ _ _ := hX; rw [if_neg (fun h => h.2 HG2.out)] at h9; exact h9
              have HVP := hid hV
              clear hV
              have HVL : Hid (nV = V.length) := hx.1
              clear hx hX
              clear hb g0 g1 g2 g3 g4
              have g0 := HS24.out.c0; have g1 := HS24.out.c1; have g2 := HS24.out.c2; have g3 := HS24.out.c3; have g4 := HS24.out.c4
              have HFL : Hid (U.length = V.length) := by show _ = _; rw [HUP.out, HVP.out]
              go_wp2_with fail
              refine (surveyX_any r cc (some ⟨bp, op, none⟩) n c l sm q m d cs _ HS24.out.ints HS24.out.cnts (by have := HN.out; omega) (by have := HN.out; omega)).mono ?_
              rintro e w25 ⟨p7, n7, c7, q7, m7, d7, rfl, hi3, hc3, hb⟩
              have HS25 := hid (HS24.out.step hb)
              have HX25 := hid (HX24.out.below hb)
              have HTA25 := hid (HTA24.out.below hb)
              have HTB25 := hid (HTB24.out.below hb)
              have HI25 := hid hi3; have HC25 := hid hc3; clear hi3 hc3
              have HL7 : Hid (n7 ≤ 12 ∧ m7 ≤ 9) := ⟨by have := HI25.out.1; have := HS25.out.ints.1; have := HN.out; omega, by have := HC25.out.1; have := HS25.out.cnts.1; have := HN.out; omega⟩
              clear hb g0 g1 g2 g3 g4
              have g0 := HS25.out.c0; have g1 := HS25.out.c1; have g2 := HS25.out.c2; have g3 := HS25.out.c3; have g4 := HS25.out.c4
              go_wp2_with fail
              refine (Leave_any r cc p7 n7 c7 l sm q7 m7 d7 cs _ HI25.out HC25.out (by have := HL7.out; omega) (by have := HL7.out; omega)).mono ?_
              rintro e w26 ⟨pY1, nY1, cY1, Y1, rfl, hx, hX, hb⟩
              have HS26 := hid (HS25.out.step hb)
              have HX26 := hid (HX25.out.below hb)
              have HTA26 := hid (HTA25.out.below hb)
              have HTB26 := hid (HTB25.out.below hb)
              have hX2 := hX
              replace hX2 : First (leftB cc l sm cs) cs.length Y1 := by have h9 : ite _ _ _ := hX; rw [if_pos HF.out] at h9; exact h9
              have HY1P := hid hX2
              clear hX2 hX
              rw [HF.out]
              have HYI26 := hid hx
              clear hx
              clear hb g0 g1 g2 g3 g4
              have g0 := HS26.out.c0; have g1 := HS26.out.c1; have g2 := HS26.out.c2; have g3 := HS26.out.c3; have g4 := HS26.out.c4
              have HYLN : Hid (Y1.length ≤ 9) := by
                show _ ≤ 9
                by_cases e : Y1 = []
                · rw [e]; simp
                · have h1 := incr_room _ _ 0 HY1P.out.1 e; have h2 := HML.out; have h3 := HN.out; omega
              have x0 := HX26.out.c0; have x1 := HX26.out.c1; have x2 := HX26.out.c2; have x3 := HX26.out.c3; have x4 := HX26.out.c4
              go_wp2_with fail
              refine (surveyX_any cc r (some ⟨gb, 0, none⟩) n n L2 sm q9 m d9 C2 _ HX26.out.ints HX26.out.cnts (by have := HN.out; omega) (by have := HN.out; omega)).mono ?_
              rintro e w27 ⟨p8, n8, c8, q8, m8, d8, rfl, hi3, hc3, hb⟩
              have HS27 := hid (HS26.out.step hb)
              have HX27 := hid (HX26.out.below hb)
              have HTA27 := hid (HTA26.out.below hb)
              have HTB27 := hid (HTB26.out.below hb)
              have HYI27 := hid (HYI26.out.below hb)
              have HI27 := hid hi3; have HC27 := hid hc3; clear hi3 hc3
              have HL8 : Hid (n8 ≤ 12 ∧ m8 ≤ 9) := ⟨by have := HI27.out.1; have := HX27.out.ints.1; have := HN.out; omega, by have := HC27.out.1; have := HX27.out.cnts.1; have := HN.out; omega⟩
              clear hb x0 x1 x2 x3 x4 g0 g1 g2 g3 g4
              have g0 := HS27.out.c0; have g1 := HS27.out.c1; have g2 := HS27.out.c2; have g3 := HS27.out.c3; have g4 := HS27.out.c4
              go_wp2_with fail
              refine (Leave_any cc r p8 n8 c8 L2 sm q8 m8 d8 C2 _ HI27.out HC27.out (by have := HL8.out; omega) (by have := HL8.out; omega)).mono ?_
              rintro e w28 ⟨pY2, nY2, cY2, Y2, rfl, hx, hX, hb⟩
              have HS28 := hid (HS27.out.step hb)
              have HX28 := hid (HX27.out.below hb)
              have HTA28 := hid (HTA27.out.below hb)
              have HTB28 := hid (HTB27.out.below hb)
              have HYI28 := hid (HYI27.out.below hb)
              have hX2 := hX
              replace hX2 : First (leftB r L2 sm C2) C2.length Y2 := by have h9 : ite _ _ _ := hX; rw [if_pos HF2.out] at h9; exact h9
              have HY2P := hid hX2
              clear hX2 hX
              rw [HF2.out]
              obtain rfl : Y1 = Y2 := HLT.out _ _ HY1P.out HY2P.out
              have HYI2 := hid hx
              clear hx
              clear hb g0 g1 g2 g3 g4
              have g0 := HS28.out.c0; have g1 := HS28.out.c1; have g2 := HS28.out.c2; have g3 := HS28.out.c3; have g4 := HS28.out.c4
              have hnf : (nU : Int) = nV := by rw [HUL.out, HVL.out, HFL.out]
              have hnf2 : nU = nV := by omega
              have ⟨at0, at1⟩ := HTA28.out
              have ⟨bt0, bt1⟩ := HTB28.out
              go_wp2_with fail
              refine (sameN_any pY1 nY1 cY1 Y1 pY2 nY2 cY2 Y1 _ HYI28.out HYI2.out (by have := HYLN.out; have := HYI28.out.1; omega) (by have := HYLN.out; have := HYI2.out.1; omega)).mono ?_
              rintro e w29 ⟨rfl, hb⟩
              have HS29 := hid (HS28.out.step hb)
              have HX29 := hid (HX28.out.below hb)
              have HTA29 := hid (HTA28.out.below hb)
              have HTB29 := hid (HTB28.out.below hb)
              have HYI29 := hid (HYI28.out.below hb)
              rw [sameB_selfN]
              clear hb at0 at1 bt0 bt1 hnf hnf2 g0 g1 g2 g3 g4
              have g0 := HS29.out.c0; have g1 := HS29.out.c1; have g2 := HS29.out.c2; have g3 := HS29.out.c3; have g4 := HS29.out.c4
              go_wp2_with fail
              refine (awake_any _).mono ?_
              rintro e w99 ⟨rfl, hb⟩
              go_wp2_with fail
              go_ret
              exact ⟨rfl, HS29.out.below.trans (hb.mono HS29.out.below.size)⟩
            · skip
              have hG2 : genP (okP C2 [] r sm) L2 0 [] ≠ [] := fun e => hG (HNT.out.2 e)
              obtain ⟨alo, ahi, hra, _⟩ := bnd_span (F := shareL l) HF.out hG
              have HRA := hid hra
              have HRB := hid (HBT.out.trans hra)
              obtain ⟨vv, hva⟩ : ∃ vv, aboveR n0 r cc l sm cs = (vv, 0) := by
                have h := hra
                rw [bndR, if_pos HF.out] at h
                exact ⟨verdictL alo ahi n0, by rw [aboveR, if_pos HP1.out, h]; rfl⟩
              have HVA := hid hva; have HVB := hid ((HAT.out n0).trans hva)
              have hea : fewE r cc l sm cs n0 = 0 := by rw [fewE, if_pos HP1.out, if_neg hG]
              have HEA := hid hea; have HEB := hid ((HET.out n0).trans hea)
              have HG := hid hG; have HG2 := hid hG2
              clear hG hG2 hra hva hea
              go_wp2_with fail
              refine (surveyX_any r cc (some ⟨bp, op, none⟩) n c l sm q m d cs _ HS10.out.ints HS10.out.cnts (by have := HN.out; omega) (by have := HN.out; omega)).mono ?_
              rintro e w11 ⟨p1, n1, c1, q1, m1, d1, rfl, hi3, hc3, hb⟩
              have HS11 := hid (HS10.out.step hb)
              have HX11 := hid (HX10.out.below hb)
              have HI11 := hid hi3; have HC11 := hid hc3; clear hi3 hc3
              have HL1 : Hid (n1 ≤ 12 ∧ m1 ≤ 9) := ⟨by have := HI11.out.1; have := HS11.out.ints.1; have := HN.out; omega, by have := HC11.out.1; have := HS11.out.cnts.1; have := HN.out; omega⟩
              clear hb g0 g1 g2 g3 g4
              have g0 := HS11.out.c0; have g1 := HS11.out.c1; have g2 := HS11.out.c2; have g3 := HS11.out.c3; have g4 := HS11.out.c4
              go_wp2_with fail
              refine (Bounds_any r cc p1 n1 c1 l sm q1 m1 d1 cs _ HI11.out HC11.out (by have := HL1.out; omega) (by have := HL1.out; omega)).mono ?_
              rintro e w12 ⟨rfl, hb⟩
              have HS12 := hid (HS11.out.step hb)
              have HX12 := hid (HX11.out.below hb)
              rw [HRA.out]
              clear hb g0 g1 g2 g3 g4
              have g0 := HS12.out.c0; have g1 := HS12.out.c1; have g2 := HS12.out.c2; have g3 := HS12.out.c3; have g4 := HS12.out.c4
              obtain ⟨w13, hw⟩ : ∃ z, w12.alloc (.cells #[.int .i64 alo, .int .i64 ahi] 62) = z := ⟨_, rfl⟩
              have hb : Below w12.heap.size w12 w13 := by rw [← hw]; exact (Below.refl _ _).alloc (Nat.le_refl _) _
              have HS13 := hid (HS12.out.step hb)
              have HX13 := hid (HX12.out.below hb)
              have HTA13 : Hid (TwoAt w13 w12.heap.size alo ahi) := by rw [← hw]; exact ⟨cell_box w12 _ 62 0 _ rfl, cell_box w12 _ 62 1 _ rfl⟩
              clear hb g0 g1 g2 g3 g4
              have g0 := HS13.out.c0; have g1 := HS13.out.c1; have g2 := HS13.out.c2; have g3 := HS13.out.c3; have g4 := HS13.out.c4
              have x0 := HX13.out.c0; have x1 := HX13.out.c1; have x2 := HX13.out.c2; have x3 := HX13.out.c3; have x4 := HX13.out.c4
              go_wp2_with fail
              refine (surveyX_any cc r (some ⟨gb, 0, none⟩) n n L2 sm q9 m d9 C2 _ HX13.out.ints HX13.out.cnts (by have := HN.out; omega) (by have := HN.out; omega)).mono ?_
              rintro e w14 ⟨p2, n2, c2, q2, m2, d2, rfl, hi3, hc3, hb⟩
              have HS14 := hid (HS13.out.step hb)
              have HX14 := hid (HX13.out.below hb)
              have HTA14 := hid (HTA13.out.below hb)
              have HI14 := hid hi3; have HC14 := hid hc3; clear hi3 hc3
              have HL2 : Hid (n2 ≤ 12 ∧ m2 ≤ 9) := ⟨by have := HI14.out.1; have := HX14.out.ints.1; have := HN.out; omega, by have := HC14.out.1; have := HX14.out.cnts.1; have := HN.out; omega⟩
              clear hb x0 x1 x2 x3 x4 g0 g1 g2 g3 g4
              have g0 := HS14.out.c0; have g1 := HS14.out.c1; have g2 := HS14.out.c2; have g3 := HS14.out.c3; have g4 := HS14.out.c4
              go_wp2_with fail
              refine (Bounds_any cc r p2 n2 c2 L2 sm q2 m2 d2 C2 _ HI14.out HC14.out (by have := HL2.out; omega) (by have := HL2.out; omega)).mono ?_
              rintro e w15 ⟨rfl, hb⟩
              have HS15 := hid (HS14.out.step hb)
              have HX15 := hid (HX14.out.below hb)
              have HTA15 := hid (HTA14.out.below hb)
              rw [HRB.out]
              clear hb g0 g1 g2 g3 g4
              have g0 := HS15.out.c0; have g1 := HS15.out.c1; have g2 := HS15.out.c2; have g3 := HS15.out.c3; have g4 := HS15.out.c4
              obtain ⟨w16, hw⟩ : ∃ z, w15.alloc (.cells #[.int .i64 alo, .int .i64 ahi] 62) = z := ⟨_, rfl⟩
              have hb : Below w15.heap.size w15 w16 := by rw [← hw]; exact (Below.refl _ _).alloc (Nat.le_refl _) _
              have HS16 := hid (HS15.out.step hb)
              have HX16 := hid (HX15.out.below hb)
              have HTA16 := hid (HTA15.out.below hb)
              have HTB16 : Hid (TwoAt w16 w15.heap.size alo ahi) := by rw [← hw]; exact ⟨cell_box w15 _ 62 0 _ rfl, cell_box w15 _ 62 1 _ rfl⟩
              clear hb g0 g1 g2 g3 g4
              have g0 := HS16.out.c0; have g1 := HS16.out.c1; have g2 := HS16.out.c2; have g3 := HS16.out.c3; have g4 := HS16.out.c4
              go_wp2_with fail
              refine (surveyX_any r cc (some ⟨bp, op, none⟩) n c l sm q m d cs _ HS16.out.ints HS16.out.cnts (by have := HN.out; omega) (by have := HN.out; omega)).mono ?_
              rintro e w17 ⟨p3, n3, c3, q3, m3, d3, rfl, hi3, hc3, hb⟩
              have HS17 := hid (HS16.out.step hb)
              have HX17 := hid (HX16.out.below hb)
              have HTA17 := hid (HTA16.out.below hb)
              have HTB17 := hid (HTB16.out.below hb)
              have HI17 := hid hi3; have HC17 := hid hc3; clear hi3 hc3
              have HL3 : Hid (n3 ≤ 12 ∧ m3 ≤ 9) := ⟨by have := HI17.out.1; have := HS17.out.ints.1; have := HN.out; omega, by have := HC17.out.1; have := HS17.out.cnts.1; have := HN.out; omega⟩
              clear hb g0 g1 g2 g3 g4
              have g0 := HS17.out.c0; have g1 := HS17.out.c1; have g2 := HS17.out.c2; have g3 := HS17.out.c3; have g4 := HS17.out.c4
              go_wp2_with fail
              refine (Above_any r cc p3 n3 c3 l sm q3 m3 d3 cs n0 _ HI17.out HC17.out (by have := HL3.out; omega) (by have := HL3.out; omega)).mono ?_
              rintro e w18 ⟨rfl, hb⟩
              have HS18 := hid (HS17.out.step hb)
              have HX18 := hid (HX17.out.below hb)
              have HTA18 := hid (HTA17.out.below hb)
              have HTB18 := hid (HTB17.out.below hb)
              rw [HVA.out]
              clear hb g0 g1 g2 g3 g4
              have g0 := HS18.out.c0; have g1 := HS18.out.c1; have g2 := HS18.out.c2; have g3 := HS18.out.c3; have g4 := HS18.out.c4
              have x0 := HX18.out.c0; have x1 := HX18.out.c1; have x2 := HX18.out.c2; have x3 := HX18.out.c3; have x4 := HX18.out.c4
              go_wp2_with fail
              refine (surveyX_any cc r (some ⟨gb, 0, none⟩) n n L2 sm q9 m d9 C2 _ HX18.out.ints HX18.out.cnts (by have := HN.out; omega) (by have := HN.out; omega)).mono ?_
              rintro e w19 ⟨p4, n4, c4, q4, m4, d4, rfl, hi3, hc3, hb⟩
              have HS19 := hid (HS18.out.step hb)
              have HX19 := hid (HX18.out.below hb)
              have HTA19 := hid (HTA18.out.below hb)
              have HTB19 := hid (HTB18.out.below hb)
              have HI19 := hid hi3; have HC19 := hid hc3; clear hi3 hc3
              have HL4 : Hid (n4 ≤ 12 ∧ m4 ≤ 9) := ⟨by have := HI19.out.1; have := HX19.out.ints.1; have := HN.out; omega, by have := HC19.out.1; have := HX19.out.cnts.1; have := HN.out; omega⟩
              clear hb x0 x1 x2 x3 x4 g0 g1 g2 g3 g4
              have g0 := HS19.out.c0; have g1 := HS19.out.c1; have g2 := HS19.out.c2; have g3 := HS19.out.c3; have g4 := HS19.out.c4
              go_wp2_with fail
              refine (Above_any cc r p4 n4 c4 L2 sm q4 m4 d4 C2 n0 _ HI19.out HC19.out (by have := HL4.out; omega) (by have := HL4.out; omega)).mono ?_
              rintro e w20 ⟨rfl, hb⟩
              have HS20 := hid (HS19.out.step hb)
              have HX20 := hid (HX19.out.below hb)
              have HTA20 := hid (HTA19.out.below hb)
              have HTB20 := hid (HTB19.out.below hb)
              rw [HVB.out]
              clear hb g0 g1 g2 g3 g4
              have g0 := HS20.out.c0; have g1 := HS20.out.c1; have g2 := HS20.out.c2; have g3 := HS20.out.c3; have g4 := HS20.out.c4
              go_wp2_with fail
              refine (surveyX_any r cc (some ⟨bp, op, none⟩) n c l sm q m d cs _ HS20.out.ints HS20.out.cnts (by have := HN.out; omega) (by have := HN.out; omega)).mono ?_
              rintro e w21 ⟨p5, n5, c5, q5, m5, d5, rfl, hi3, hc3, hb⟩
              have HS21 := hid (HS20.out.step hb)
              have HX21 := hid (HX20.out.below hb)
              have HTA21 := hid (HTA20.out.below hb)
              have HTB21 := hid (HTB20.out.below hb)
              have HI21 := hid hi3; have HC21 := hid hc3; clear hi3 hc3
              have HL5 : Hid (n5 ≤ 12 ∧ m5 ≤ 9) := ⟨by have := HI21.out.1; have := HS21.out.ints.1; have := HN.out; omega, by have := HC21.out.1; have := HS21.out.cnts.1; have := HN.out; omega⟩
              clear hb g0 g1 g2 g3 g4
              have g0 := HS21.out.c0; have g1 := HS21.out.c1; have g2 := HS21.out.c2; have g3 := HS21.out.c3; have g4 := HS21.out.c4
              go_wp2_with fail
              refine (Fewest_any r cc p5 n5 c5 l sm q5 m5 d5 cs n0 _ HI21.out HC21.out (by have := HL5.out; omega) (by have := HL5.out; omega)).mono ?_
              rintro e w22 ⟨pU, nU, cU, U, rfl, hx, hX, hb⟩
              have HS22 := hid (HS21.out.step hb)
              have HX22 := hid (HX21.out.below hb)
              have HTA22 := hid (HTA21.out.below hb)
              have HTB22 := hid (HTB21.out.below hb)
              rw [show (if partE r cc l sm cs n0 = 0 then (if genP (okP cs [] cc sm) l 0 [] = [] then 9 else 0) else partE r cc l sm cs n0) = 0 from HEA.out]
              have hU : First (fewB cc sm n0 l cs) l.length U := by have h9 : ite _ _ _ := hX; rw [if_pos ⟨HP1.out, HG.out⟩] at h9; exact h9
              have HUP := hid hU
              clear hU
              have HUL : Hid (nU = U.length) := hx.1
              clear hx hX
              clear hb g0 g1 g2 g3 g4
              have g0 := HS22.out.c0; have g1 := HS22.out.c1; have g2 := HS22.out.c2; have g3 := HS22.out.c3; have g4 := HS22.out.c4
              have x0 := HX22.out.c0; have x1 := HX22.out.c1; have x2 := HX22.out.c2; have x3 := HX22.out.c3; have x4 := HX22.out.c4
              go_wp2_with fail
              refine (surveyX_any cc r (some ⟨gb, 0, none⟩) n n L2 sm q9 m d9 C2 _ HX22.out.ints HX22.out.cnts (by have := HN.out; omega) (by have := HN.out; omega)).mono ?_
              rintro e w23 ⟨p6, n6, c6, q6, m6, d6, rfl, hi3, hc3, hb⟩
              have HS23 := hid (HS22.out.step hb)
              have HX23 := hid (HX22.out.below hb)
              have HTA23 := hid (HTA22.out.below hb)
              have HTB23 := hid (HTB22.out.below hb)
              have HI23 := hid hi3; have HC23 := hid hc3; clear hi3 hc3
              have HL6 : Hid (n6 ≤ 12 ∧ m6 ≤ 9) := ⟨by have := HI23.out.1; have := HX23.out.ints.1; have := HN.out; omega, by have := HC23.out.1; have := HX23.out.cnts.1; have := HN.out; omega⟩
              clear hb x0 x1 x2 x3 x4 g0 g1 g2 g3 g4
              have g0 := HS23.out.c0; have g1 := HS23.out.c1; have g2 := HS23.out.c2; have g3 := HS23.out.c3; have g4 := HS23.out.c4
              go_wp2_with fail
              refine (Fewest_any cc r p6 n6 c6 L2 sm q6 m6 d6 C2 n0 _ HI23.out HC23.out (by have := HL6.out; omega) (by have := HL6.out; omega)).mono ?_
              rintro e w24 ⟨pV, nV, cV, V, rfl, hx, hX, hb⟩
              have HS24 := hid (HS23.out.step hb)
              have HX24 := hid (HX23.out.below hb)
              have HTA24 := hid (HTA23.out.below hb)
              have HTB24 := hid (HTB23.out.below hb)
              rw [show (if partE cc r L2 sm C2 n0 = 0 then (if genP (okP C2 [] r sm) L2 0 [] = [] then 9 else 0) else partE cc r L2 sm C2 n0) = 0 from HEB.out]
              have hV : First (fewB r sm n0 L2 C2) L2.length V := by have h9 : ite _ _ _ := hX; rw [if_pos ⟨HP2.out, HG2.out⟩] at h9; exact h9
              have HVP := hid hV
              clear hV
              have HVL : Hid (nV = V.length) := hx.1
              clear hx hX
              clear hb g0 g1 g2 g3 g4
              have g0 := HS24.out.c0; have g1 := HS24.out.c1; have g2 := HS24.out.c2; have g3 := HS24.out.c3; have g4 := HS24.out.c4
              have HFL : Hid (U.length = V.length) := HWT.out n0 U V HUP.out HVP.out
              go_wp2_with fail
              refine (surveyX_any r cc (some ⟨bp, op, none⟩) n c l sm q m d cs _ HS24.out.ints HS24.out.cnts (by have := HN.out; omega) (by have := HN.out; omega)).mono ?_
              rintro e w25 ⟨p7, n7, c7, q7, m7, d7, rfl, hi3, hc3, hb⟩
              have HS25 := hid (HS24.out.step hb)
              have HX25 := hid (HX24.out.below hb)
              have HTA25 := hid (HTA24.out.below hb)
              have HTB25 := hid (HTB24.out.below hb)
              have HI25 := hid hi3; have HC25 := hid hc3; clear hi3 hc3
              have HL7 : Hid (n7 ≤ 12 ∧ m7 ≤ 9) := ⟨by have := HI25.out.1; have := HS25.out.ints.1; have := HN.out; omega, by have := HC25.out.1; have := HS25.out.cnts.1; have := HN.out; omega⟩
              clear hb g0 g1 g2 g3 g4
              have g0 := HS25.out.c0; have g1 := HS25.out.c1; have g2 := HS25.out.c2; have g3 := HS25.out.c3; have g4 := HS25.out.c4
              go_wp2_with fail
              refine (Leave_any r cc p7 n7 c7 l sm q7 m7 d7 cs _ HI25.out HC25.out (by have := HL7.out; omega) (by have := HL7.out; omega)).mono ?_
              rintro e w26 ⟨pY1, nY1, cY1, Y1, rfl, hx, hX, hb⟩
              have HS26 := hid (HS25.out.step hb)
              have HX26 := hid (HX25.out.below hb)
              have HTA26 := hid (HTA25.out.below hb)
              have HTB26 := hid (HTB25.out.below hb)
              have hX2 := hX
              replace hX2 : First (leftB cc l sm cs) cs.length Y1 := by have h9 : ite _ _ _ := hX; rw [if_pos HF.out] at h9; exact h9
              have HY1P := hid hX2
              clear hX2 hX
              rw [HF.out]
              have HYI26 := hid hx
              clear hx
              clear hb g0 g1 g2 g3 g4
              have g0 := HS26.out.c0; have g1 := HS26.out.c1; have g2 := HS26.out.c2; have g3 := HS26.out.c3; have g4 := HS26.out.c4
              have HYLN : Hid (Y1.length ≤ 9) := by
                show _ ≤ 9
                by_cases e : Y1 = []
                · rw [e]; simp
                · have h1 := incr_room _ _ 0 HY1P.out.1 e; have h2 := HML.out; have h3 := HN.out; omega
              have x0 := HX26.out.c0; have x1 := HX26.out.c1; have x2 := HX26.out.c2; have x3 := HX26.out.c3; have x4 := HX26.out.c4
              go_wp2_with fail
              refine (surveyX_any cc r (some ⟨gb, 0, none⟩) n n L2 sm q9 m d9 C2 _ HX26.out.ints HX26.out.cnts (by have := HN.out; omega) (by have := HN.out; omega)).mono ?_
              rintro e w27 ⟨p8, n8, c8, q8, m8, d8, rfl, hi3, hc3, hb⟩
              have HS27 := hid (HS26.out.step hb)
              have HX27 := hid (HX26.out.below hb)
              have HTA27 := hid (HTA26.out.below hb)
              have HTB27 := hid (HTB26.out.below hb)
              have HYI27 := hid (HYI26.out.below hb)
              have HI27 := hid hi3; have HC27 := hid hc3; clear hi3 hc3
              have HL8 : Hid (n8 ≤ 12 ∧ m8 ≤ 9) := ⟨by have := HI27.out.1; have := HX27.out.ints.1; have := HN.out; omega, by have := HC27.out.1; have := HX27.out.cnts.1; have := HN.out; omega⟩
              clear hb x0 x1 x2 x3 x4 g0 g1 g2 g3 g4
              have g0 := HS27.out.c0; have g1 := HS27.out.c1; have g2 := HS27.out.c2; have g3 := HS27.out.c3; have g4 := HS27.out.c4
              go_wp2_with fail
              refine (Leave_any cc r p8 n8 c8 L2 sm q8 m8 d8 C2 _ HI27.out HC27.out (by have := HL8.out; omega) (by have := HL8.out; omega)).mono ?_
              rintro e w28 ⟨pY2, nY2, cY2, Y2, rfl, hx, hX, hb⟩
              have HS28 := hid (HS27.out.step hb)
              have HX28 := hid (HX27.out.below hb)
              have HTA28 := hid (HTA27.out.below hb)
              have HTB28 := hid (HTB27.out.below hb)
              have HYI28 := hid (HYI27.out.below hb)
              have hX2 := hX
              replace hX2 : First (leftB r L2 sm C2) C2.length Y2 := by have h9 : ite _ _ _ := hX; rw [if_pos HF2.out] at h9; exact h9
              have HY2P := hid hX2
              clear hX2 hX
              rw [HF2.out]
              obtain rfl : Y1 = Y2 := HLT.out _ _ HY1P.out HY2P.out
              have HYI2 := hid hx
              clear hx
              clear hb g0 g1 g2 g3 g4
              have g0 := HS28.out.c0; have g1 := HS28.out.c1; have g2 := HS28.out.c2; have g3 := HS28.out.c3; have g4 := HS28.out.c4
              have hnf : (nU : Int) = nV := by rw [HUL.out, HVL.out, HFL.out]
              have hnf2 : nU = nV := by omega
              have ⟨at0, at1⟩ := HTA28.out
              have ⟨bt0, bt1⟩ := HTB28.out
              go_wp2_with fail
              refine (sameN_any pY1 nY1 cY1 Y1 pY2 nY2 cY2 Y1 _ HYI28.out HYI2.out (by have := HYLN.out; have := HYI28.out.1; omega) (by have := HYLN.out; have := HYI2.out.1; omega)).mono ?_
              rintro e w29 ⟨rfl, hb⟩
              have HS29 := hid (HS28.out.step hb)
              have HX29 := hid (HX28.out.below hb)
              have HTA29 := hid (HTA28.out.below hb)
              have HTB29 := hid (HTB28.out.below hb)
              have HYI29 := hid (HYI28.out.below hb)
              rw [sameB_selfN]
              clear hb at0 at1 bt0 bt1 hnf hnf2 g0 g1 g2 g3 g4
              have g0 := HS29.out.c0; have g1 := HS29.out.c1; have g2 := HS29.out.c2; have g3 := HS29.out.c3; have g4 := HS29.out.c4
              go_wp2_with fail
              refine (awake_any _).mono ?_
              rintro e w99 ⟨rfl, hb⟩
              go_wp2_with fail
              go_ret
              exact ⟨rfl, HS29.out.below.trans (hb.mono HS29.out.below.size)⟩
end Go.Proofs.Ytlicijnaacdceaa
