/- FrameSmooth returns true, whatever its arguments are. No condition. -/
import Derived.Test.YtlicijnaacdceaaPlnI
import Derived.Test.YtlicijnaacdceaaLawF
import Derived.Deep.Cut
namespace Go.Proofs.Ytlicijnaacdceaa
open Go.RowKit

set_option maxRecDepth 40000 in
set_option maxHeartbeats 32000000 in
theorem frameSmooth_any (r cc : Int) (p : Option Addr) (n c : Nat) (l : List Int) (sm : Int) (q : Option Addr) (m d : Nat) (cs : List Cnt) (x y : Int) (w : World) (hl : IntsAt w p n l) (hcs : CntsAt w q m cs) (hx : 0 ≤ x ∧ x ≤ 255) (hy : 0 ≤ y ∧ y ≤ 255) :
    Calls Try.prog 13 #[.agg #[.int .i64 r, .int .i64 cc, .slice p n c, .int .i64 sm, .slice q m d], .int .u8 x, .int .u8 y] w fun e w' => e = .returned (.bool true) ∧ Below w.heap.size w w' := by
  have HSV : Hid (∀ V, Below (w.heap.size + 1) (w.alloc (.cells #[.int .i64 r, .int .i64 cc, .slice p n c, .int .i64 sm, .slice q m d] 27)) V → SAt w r cc p n c l sm q m d cs V) := by
    intro V hV
    have h1 : Below w.heap.size w V := ((Below.refl _ _).alloc (Nat.le_refl _) _).trans (hV.mono (by omega))
    exact ⟨Boxed1.step' (Boxed1.start _ _ _) hV, hl.below h1, hcs.below h1⟩
  have HIW := hid hl; have HCW := hid hcs; have HXX := hid hx; have HY := hid hy
  have HS1 := hid (HSV.out _ (Below.refl _ _))
  clear hl hcs hx hy
  have g0 := HS1.out.c0; have g1 := HS1.out.c1; have g2 := HS1.out.c2; have g3 := HS1.out.c3; have g4 := HS1.out.c4
  obtain ⟨cb, hcb⟩ : ∃ a, (thinB n m && decide (faultL r cc l sm cs = 0)) = a := ⟨_, rfl⟩
  have HCB := hid hcb
  go_enter Try.func13, Try.ntmps13
  go_wp2_with fail
  refine (ready_any r cc p n c l sm q m d cs _ HS1.out.ints HS1.out.cnts).mono ?_
  rintro e w2 ⟨rfl, hb⟩
  have HS2 := hid (HS1.out.step hb)
  rw [hcb]
  clear hcb
  have HBW := hid (show Below (w.heap.size + 1) (w.alloc (.cells #[.int .i64 r, .int .i64 cc, .slice p n c, .int .i64 sm, .slice q m d] 27)) w2 from by rw [← World.size_alloc w (.cells #[.int .i64 r, .int .i64 cc, .slice p n c, .int .i64 sm, .slice q m d] 27)]; exact hb)
  clear hb g0 g1 g2 g3 g4
  have g0 := HS2.out.c0; have g1 := HS2.out.c1; have g2 := HS2.out.c2; have g3 := HS2.out.c3; have g4 := HS2.out.c4
  cases cb with
  | true =>
    have hnm : n ≤ 12 ∧ m ≤ 9 := by have h := HCB.out; simp only [Bool.and_eq_true, thinB, decide_eq_true_eq] at h; exact h.1
    have HN := hid hnm
    clear hnm
    have hf : faultL r cc l sm cs = 0 := by have h := HCB.out; simp only [Bool.and_eq_true, decide_eq_true_eq] at h; exact h.2
    have HF := hid hf
    clear hf
    go_upto_region 3 with fail
    go_cut [7, 8] from 23 (fun v7 v8 wr => ∃ bx bz : Nat, v7 = .pointer (some ⟨bx, 0, none⟩) ∧ v8 = .pointer (some ⟨bz, 0, none⟩) ∧ bx ≠ bz ∧ w.heap.size < bx ∧ w.heap.size < bz ∧ Below (w.heap.size + 1) (w.alloc (.cells #[.int .i64 r, .int .i64 cc, .slice p n c, .int .i64 sm, .slice q m d] 27)) wr ∧ BoxIs bx #[.int .i64 r, .int .i64 cc, .slice p n c, .int .i64 sm, .slice q m d] wr ∧ BoxIs bz #[.int .i64 r, .int .i64 cc, .slice p n c, .int .i64 sm, .slice q m d] wr)
    case first =>
      have hB : Below (w.heap.size + 1) (w.alloc (.cells #[.int .i64 r, .int .i64 cc, .slice p n c, .int .i64 sm, .slice q m d] 27)) w2.drew := HBW.out.drew
      refine wp_region_held_drew (S := fun V => Below (w.heap.size + 1) (w.alloc (.cells #[.int .i64 r, .int .i64 cc, .slice p n c, .int .i64 sm, .slice q m d] 27)) V) (by kernel_rfl) (hB) (fun hS => ?_)
      simp only [List.size_toArray, List.length_cons, List.length_nil, Nat.reduceAdd, Array.replicate_succ, Array.replicate_zero, List.push_toArray, List.nil_append, List.cons_append]
      refine wpAnyH_take (i := 0) (v := ?_) rfl (by kernel_rfl) (by kernel_rfl) (by kernel_rfl) (fun _ _ _ h => h) (Or.inl ⟨by rfl, fun V hV => ?_⟩) (by assumption) ?_
      rotate_left
      · have g0 := (HSV.out V hV).c0; have g1 := (HSV.out V hV).c1; have g2 := (HSV.out V hV).c2; have g3 := (HSV.out V hV).c3; have g4 := (HSV.out V hV).c4; go_simp
        try with_reducible rfl
      try simp only [Act.put, List.getElem_toArray, List.getElem_cons_zero, List.setIfInBounds_toArray, List.set_cons_zero, List.set_cons_succ]
      refine wpAnyH_take (i := 1) (v := ?_) rfl (by kernel_rfl) (by kernel_rfl) (by kernel_rfl) (fun _ _ _ h => h) (Or.inl ⟨by rfl, fun V hV => ?_⟩) (by assumption) ?_
      rotate_left
      · have g0 := (HSV.out V hV).c0; have g1 := (HSV.out V hV).c1; have g2 := (HSV.out V hV).c2; have g3 := (HSV.out V hV).c3; have g4 := (HSV.out V hV).c4; go_simp
        try with_reducible rfl
      try simp only [Act.put, List.getElem_toArray, List.getElem_cons_zero, List.getElem_cons_succ, List.setIfInBounds_toArray, List.set_cons_zero, List.set_cons_succ]
      refine wpAnyH_ready (rs := [2, 3]) (by kernel_rfl) (by simp) ?_
      refine AllReadyH.cons (o := _) rfl (fun K hK => ?_) ?_
      · skip
        obtain ⟨V2, hV2⟩ : ∃ V, (w2.drew).alloc (.cells #[.int .i64 0, .int .i64 0, .slice none 0 0, .int .i64 0, .slice none 0 0] 27) = V := ⟨_, rfl⟩
        have hb : Below (w2.drew).heap.size (w2.drew) V2 := by rw [← hV2]; exact (Below.refl _ _).alloc (Nat.le_refl _) _
        have h7 : BoxIs w2.heap.size #[.int .i64 0, .int .i64 0, .slice none 0 0, .int .i64 0, .slice none 0 0] V2 := by rw [← hV2]; exact BoxIs.start _ _ _
        have hz2 : Hid (V2.heap.size = w2.heap.size + 1) := by rw [← hV2]; exact World.size_alloc _ _
        have hge2 : Hid (w.heap.size + 1 ≤ w2.heap.size) := by have h8 := hB.size; rw [World.size_alloc] at h8; exact h8
        have hB := hB.trans (hb.mono hge2.out)
        clear hb
        go_simp
        refine hK.out _ _ (hB) (fun hS => ?_)
        clear hK K
        try simp only [List.setIfInBounds_toArray, List.set_cons_zero, List.set_cons_succ]
        refine wpAnyH_ready (rs := [3]) (by kernel_rfl) (by simp) ?_
        refine AllReadyH.cons (o := _) rfl (fun K hK => ?_) AllReadyH.nil
        obtain ⟨V3, hV3⟩ : ∃ V, (V2).alloc (.cells #[.int .i64 0, .int .i64 0, .slice none 0 0, .int .i64 0, .slice none 0 0] 27) = V := ⟨_, rfl⟩
        have hb : Below (V2).heap.size (V2) V3 := by rw [← hV3]; exact (Below.refl _ _).alloc (Nat.le_refl _) _
        have h8 : BoxIs V2.heap.size #[.int .i64 0, .int .i64 0, .slice none 0 0, .int .i64 0, .slice none 0 0] V3 := by rw [← hV3]; exact BoxIs.start _ _ _
        have hz3 : Hid (V3.heap.size = V2.heap.size + 1) := by rw [← hV3]; exact World.size_alloc _ _
        have hge3 : Hid (w.heap.size + 1 ≤ V2.heap.size) := by have h8 := hB.size; rw [World.size_alloc] at h8; exact h8
        have h7 := h7.below hb
        have hB := hB.trans (hb.mono hge3.out)
        clear hb
        go_simp
        refine hK.out _ _ (hB) (fun hS => ?_)
        clear hK K
        try simp only [List.setIfInBounds_toArray, List.set_cons_zero, List.set_cons_succ]
        refine wpAnyH_ready (rs := [4]) (by kernel_rfl) (by simp) ?_
        refine AllReadyH.cons (o := _) rfl (fun K hK => ?_) AllReadyH.nil
        have hne : w2.heap.size ≠ V2.heap.size := by have e1 := hz2.out; omega
        have k0 := (h7.2 0 _ rfl).1; have f0 := (h7.2 0 _ rfl).2; have k1 := (h7.2 1 _ rfl).1; have f1 := (h7.2 1 _ rfl).2; have k2 := (h7.2 2 _ rfl).1; have f2 := (h7.2 2 _ rfl).2; have k3 := (h7.2 3 _ rfl).1; have f3 := (h7.2 3 _ rfl).2; have k4 := (h7.2 4 _ rfl).1; have f4 := (h7.2 4 _ rfl).2
        have HNE := hid hne
        clear hne
        go_simp
        obtain ⟨V4, hV4⟩ : ∃ V, (((((V3).setCell ⟨w2.heap.size, 0, none⟩ (.int .i64 r)).setCell ⟨w2.heap.size, 1, none⟩ (.int .i64 cc)).setCell ⟨w2.heap.size, 2, none⟩ (.slice p n c)).setCell ⟨w2.heap.size, 3, none⟩ (.int .i64 sm)).setCell ⟨w2.heap.size, 4, none⟩ (.slice q m d) = V := ⟨_, rfl⟩
        have hB2 : Below (w.heap.size + 1) (w.alloc (.cells #[.int .i64 r, .int .i64 cc, .slice p n c, .int .i64 sm, .slice q m d] 27)) V4 := by rw [← hV4]; exact ((((hB.setCell (p := ⟨_, 0, none⟩) hge2.out _).setCell (p := ⟨_, 1, none⟩) hge2.out _).setCell (p := ⟨_, 2, none⟩) hge2.out _).setCell (p := ⟨_, 3, none⟩) hge2.out _).setCell (p := ⟨_, 4, none⟩) hge2.out _
        have h7n : BoxIs w2.heap.size #[.int .i64 r, .int .i64 cc, .slice p n c, .int .i64 sm, .slice q m d] V4 := by rw [← hV4]; exact ((((h7.put (j := 0) (.int .i64 r)).put (j := 1) (.int .i64 cc)).put (j := 2) (.slice p n c)).put (j := 3) (.int .i64 sm)).put (j := 4) (.slice q m d)
        have h8 : BoxIs V2.heap.size #[.int .i64 0, .int .i64 0, .slice none 0 0, .int .i64 0, .slice none 0 0] V4 := by rw [← hV4]; exact ((((h8.other (k' := 0) HNE.out.symm (.int .i64 r)).other (k' := 1) HNE.out.symm (.int .i64 cc)).other (k' := 2) HNE.out.symm (.slice p n c)).other (k' := 3) HNE.out.symm (.int .i64 sm)).other (k' := 4) HNE.out.symm (.slice q m d)
        have h7 := h7n
        have hB := hB2
        clear hB2 h7n k0 f0 k1 f1 k2 f2 k3 f3 k4 f4
        rw [hV4]
        refine hK.out _ _ (hB) (fun hS => ?_)
        clear hK K
        try simp only [List.setIfInBounds_toArray, List.set_cons_zero, List.set_cons_succ]
        refine wpAnyH_ready (rs := [5]) (by kernel_rfl) (by simp) ?_
        refine AllReadyH.cons (o := _) rfl (fun K hK => ?_) AllReadyH.nil
        have hne : V2.heap.size ≠ w2.heap.size := by have e1 := hz2.out; omega
        have k0 := (h8.2 0 _ rfl).1; have f0 := (h8.2 0 _ rfl).2; have k1 := (h8.2 1 _ rfl).1; have f1 := (h8.2 1 _ rfl).2; have k2 := (h8.2 2 _ rfl).1; have f2 := (h8.2 2 _ rfl).2; have k3 := (h8.2 3 _ rfl).1; have f3 := (h8.2 3 _ rfl).2; have k4 := (h8.2 4 _ rfl).1; have f4 := (h8.2 4 _ rfl).2
        have HNE := hid hne
        clear hne
        go_simp
        obtain ⟨V5, hV5⟩ : ∃ V, (((((V4).setCell ⟨V2.heap.size, 0, none⟩ (.int .i64 r)).setCell ⟨V2.heap.size, 1, none⟩ (.int .i64 cc)).setCell ⟨V2.heap.size, 2, none⟩ (.slice p n c)).setCell ⟨V2.heap.size, 3, none⟩ (.int .i64 sm)).setCell ⟨V2.heap.size, 4, none⟩ (.slice q m d) = V := ⟨_, rfl⟩
        have hB2 : Below (w.heap.size + 1) (w.alloc (.cells #[.int .i64 r, .int .i64 cc, .slice p n c, .int .i64 sm, .slice q m d] 27)) V5 := by rw [← hV5]; exact ((((hB.setCell (p := ⟨_, 0, none⟩) hge3.out _).setCell (p := ⟨_, 1, none⟩) hge3.out _).setCell (p := ⟨_, 2, none⟩) hge3.out _).setCell (p := ⟨_, 3, none⟩) hge3.out _).setCell (p := ⟨_, 4, none⟩) hge3.out _
        have h8n : BoxIs V2.heap.size #[.int .i64 r, .int .i64 cc, .slice p n c, .int .i64 sm, .slice q m d] V5 := by rw [← hV5]; exact ((((h8.put (j := 0) (.int .i64 r)).put (j := 1) (.int .i64 cc)).put (j := 2) (.slice p n c)).put (j := 3) (.int .i64 sm)).put (j := 4) (.slice q m d)
        have h7 : BoxIs w2.heap.size #[.int .i64 r, .int .i64 cc, .slice p n c, .int .i64 sm, .slice q m d] V5 := by rw [← hV5]; exact ((((h7.other (k' := 0) HNE.out.symm (.int .i64 r)).other (k' := 1) HNE.out.symm (.int .i64 cc)).other (k' := 2) HNE.out.symm (.slice p n c)).other (k' := 3) HNE.out.symm (.int .i64 sm)).other (k' := 4) HNE.out.symm (.slice q m d)
        have h8 := h8n
        have hB := hB2
        clear hB2 h8n k0 f0 k1 f1 k2 f2 k3 f3 k4 f4
        rw [hV5]
        refine hK.out _ _ (hB) (fun hS => ?_)
        clear hK K
        try simp only [List.setIfInBounds_toArray, List.set_cons_zero, List.set_cons_succ]
        refine wpAnyH_done (by kernel_rfl) ?_ _
        clear hS
        go_wp2
        go_meet
        case rel => exact ⟨_, _, rfl, rfl, (by first | exact HNE.out | exact HNE.out.symm), (by first | exact hge2.out | (have := hge2.out; omega)), (by first | exact hge3.out | (have := hge3.out; omega)), hB, h7, h8⟩
      refine AllReadyH.cons (o := _) rfl (fun K hK => ?_) AllReadyH.nil
      obtain ⟨V3, hV3⟩ : ∃ V, (w2.drew).alloc (.cells #[.int .i64 0, .int .i64 0, .slice none 0 0, .int .i64 0, .slice none 0 0] 27) = V := ⟨_, rfl⟩
      have hb : Below (w2.drew).heap.size (w2.drew) V3 := by rw [← hV3]; exact (Below.refl _ _).alloc (Nat.le_refl _) _
      have h8 : BoxIs w2.heap.size #[.int .i64 0, .int .i64 0, .slice none 0 0, .int .i64 0, .slice none 0 0] V3 := by rw [← hV3]; exact BoxIs.start _ _ _
      have hz3 : Hid (V3.heap.size = w2.heap.size + 1) := by rw [← hV3]; exact World.size_alloc _ _
      have hge3 : Hid (w.heap.size + 1 ≤ w2.heap.size) := by have h8 := hB.size; rw [World.size_alloc] at h8; exact h8
      have hB := hB.trans (hb.mono hge3.out)
      clear hb
      go_simp
      refine hK.out _ _ (hB) (fun hS => ?_)
      clear hK K
      try simp only [List.setIfInBounds_toArray, List.set_cons_zero, List.set_cons_succ]
      refine wpAnyH_ready (rs := [2]) (by kernel_rfl) (by simp) ?_
      refine AllReadyH.cons (o := _) rfl (fun K hK => ?_) AllReadyH.nil
      obtain ⟨V2, hV2⟩ : ∃ V, (V3).alloc (.cells #[.int .i64 0, .int .i64 0, .slice none 0 0, .int .i64 0, .slice none 0 0] 27) = V := ⟨_, rfl⟩
      have hb : Below (V3).heap.size (V3) V2 := by rw [← hV2]; exact (Below.refl _ _).alloc (Nat.le_refl _) _
      have h7 : BoxIs V3.heap.size #[.int .i64 0, .int .i64 0, .slice none 0 0, .int .i64 0, .slice none 0 0] V2 := by rw [← hV2]; exact BoxIs.start _ _ _
      have hz2 : Hid (V2.heap.size = V3.heap.size + 1) := by rw [← hV2]; exact World.size_alloc _ _
      have hge2 : Hid (w.heap.size + 1 ≤ V3.heap.size) := by have h8 := hB.size; rw [World.size_alloc] at h8; exact h8
      have h8 := h8.below hb
      have hB := hB.trans (hb.mono hge2.out)
      clear hb
      go_simp
      refine hK.out _ _ (hB) (fun hS => ?_)
      clear hK K
      try simp only [List.setIfInBounds_toArray, List.set_cons_zero, List.set_cons_succ]
      refine wpAnyH_ready (rs := [4]) (by kernel_rfl) (by simp) ?_
      refine AllReadyH.cons (o := _) rfl (fun K hK => ?_) AllReadyH.nil
      have hne : V3.heap.size ≠ w2.heap.size := by have e1 := hz3.out; omega
      have k0 := (h7.2 0 _ rfl).1; have f0 := (h7.2 0 _ rfl).2; have k1 := (h7.2 1 _ rfl).1; have f1 := (h7.2 1 _ rfl).2; have k2 := (h7.2 2 _ rfl).1; have f2 := (h7.2 2 _ rfl).2; have k3 := (h7.2 3 _ rfl).1; have f3 := (h7.2 3 _ rfl).2; have k4 := (h7.2 4 _ rfl).1; have f4 := (h7.2 4 _ rfl).2
      have HNE := hid hne
      clear hne
      go_simp
      obtain ⟨V4, hV4⟩ : ∃ V, (((((V2).setCell ⟨V3.heap.size, 0, none⟩ (.int .i64 r)).setCell ⟨V3.heap.size, 1, none⟩ (.int .i64 cc)).setCell ⟨V3.heap.size, 2, none⟩ (.slice p n c)).setCell ⟨V3.heap.size, 3, none⟩ (.int .i64 sm)).setCell ⟨V3.heap.size, 4, none⟩ (.slice q m d) = V := ⟨_, rfl⟩
      have hB2 : Below (w.heap.size + 1) (w.alloc (.cells #[.int .i64 r, .int .i64 cc, .slice p n c, .int .i64 sm, .slice q m d] 27)) V4 := by rw [← hV4]; exact ((((hB.setCell (p := ⟨_, 0, none⟩) hge2.out _).setCell (p := ⟨_, 1, none⟩) hge2.out _).setCell (p := ⟨_, 2, none⟩) hge2.out _).setCell (p := ⟨_, 3, none⟩) hge2.out _).setCell (p := ⟨_, 4, none⟩) hge2.out _
      have h7n : BoxIs V3.heap.size #[.int .i64 r, .int .i64 cc, .slice p n c, .int .i64 sm, .slice q m d] V4 := by rw [← hV4]; exact ((((h7.put (j := 0) (.int .i64 r)).put (j := 1) (.int .i64 cc)).put (j := 2) (.slice p n c)).put (j := 3) (.int .i64 sm)).put (j := 4) (.slice q m d)
      have h8 : BoxIs w2.heap.size #[.int .i64 0, .int .i64 0, .slice none 0 0, .int .i64 0, .slice none 0 0] V4 := by rw [← hV4]; exact ((((h8.other (k' := 0) HNE.out.symm (.int .i64 r)).other (k' := 1) HNE.out.symm (.int .i64 cc)).other (k' := 2) HNE.out.symm (.slice p n c)).other (k' := 3) HNE.out.symm (.int .i64 sm)).other (k' := 4) HNE.out.symm (.slice q m d)
      have h7 := h7n
      have hB := hB2
      clear hB2 h7n k0 f0 k1 f1 k2 f2 k3 f3 k4 f4
      rw [hV4]
      refine hK.out _ _ (hB) (fun hS => ?_)
      clear hK K
      try simp only [List.setIfInBounds_toArray, List.set_cons_zero, List.set_cons_succ]
      refine wpAnyH_ready (rs := [5]) (by kernel_rfl) (by simp) ?_
      refine AllReadyH.cons (o := _) rfl (fun K hK => ?_) AllReadyH.nil
      have hne : w2.heap.size ≠ V3.heap.size := by have e1 := hz3.out; omega
      have k0 := (h8.2 0 _ rfl).1; have f0 := (h8.2 0 _ rfl).2; have k1 := (h8.2 1 _ rfl).1; have f1 := (h8.2 1 _ rfl).2; have k2 := (h8.2 2 _ rfl).1; have f2 := (h8.2 2 _ rfl).2; have k3 := (h8.2 3 _ rfl).1; have f3 := (h8.2 3 _ rfl).2; have k4 := (h8.2 4 _ rfl).1; have f4 := (h8.2 4 _ rfl).2
      have HNE := hid hne
      clear hne
      go_simp
      obtain ⟨V5, hV5⟩ : ∃ V, (((((V4).setCell ⟨w2.heap.size, 0, none⟩ (.int .i64 r)).setCell ⟨w2.heap.size, 1, none⟩ (.int .i64 cc)).setCell ⟨w2.heap.size, 2, none⟩ (.slice p n c)).setCell ⟨w2.heap.size, 3, none⟩ (.int .i64 sm)).setCell ⟨w2.heap.size, 4, none⟩ (.slice q m d) = V := ⟨_, rfl⟩
      have hB2 : Below (w.heap.size + 1) (w.alloc (.cells #[.int .i64 r, .int .i64 cc, .slice p n c, .int .i64 sm, .slice q m d] 27)) V5 := by rw [← hV5]; exact ((((hB.setCell (p := ⟨_, 0, none⟩) hge3.out _).setCell (p := ⟨_, 1, none⟩) hge3.out _).setCell (p := ⟨_, 2, none⟩) hge3.out _).setCell (p := ⟨_, 3, none⟩) hge3.out _).setCell (p := ⟨_, 4, none⟩) hge3.out _
      have h8n : BoxIs w2.heap.size #[.int .i64 r, .int .i64 cc, .slice p n c, .int .i64 sm, .slice q m d] V5 := by rw [← hV5]; exact ((((h8.put (j := 0) (.int .i64 r)).put (j := 1) (.int .i64 cc)).put (j := 2) (.slice p n c)).put (j := 3) (.int .i64 sm)).put (j := 4) (.slice q m d)
      have h7 : BoxIs V3.heap.size #[.int .i64 r, .int .i64 cc, .slice p n c, .int .i64 sm, .slice q m d] V5 := by rw [← hV5]; exact ((((h7.other (k' := 0) HNE.out.symm (.int .i64 r)).other (k' := 1) HNE.out.symm (.int .i64 cc)).other (k' := 2) HNE.out.symm (.slice p n c)).other (k' := 3) HNE.out.symm (.int .i64 sm)).other (k' := 4) HNE.out.symm (.slice q m d)
      have h8 := h8n
      have hB := hB2
      clear hB2 h8n k0 f0 k1 f1 k2 f2 k3 f3 k4 f4
      rw [hV5]
      refine hK.out _ _ (hB) (fun hS => ?_)
      clear hK K
      try simp only [List.setIfInBounds_toArray, List.set_cons_zero, List.set_cons_succ]
      refine wpAnyH_done (by kernel_rfl) ?_ _
      clear hS
      go_wp2
      go_meet
      case rel => exact ⟨_, _, rfl, rfl, (by first | exact HNE.out | exact HNE.out.symm), (by first | exact hge2.out | (have := hge2.out; omega)), (by first | exact hge3.out | (have := hge3.out; omega)), hB, h7, h8⟩
    case rest =>
      obtain ⟨bx, bz, rfl, rfl, hne, hlx, hlz, hB, hx5, hz5⟩ := hcut
      have HNE := hid hne; have HLX := hid hlx; have HLZ := hid hlz; have HB3 := hid hB; have HX5 := hid hx5; have HZ5 := hid hz5
      have HS3 := hid (HSV.out _ hB)
      clear hne hlx hlz hB hx5 hz5 g0 g1 g2 g3 g4
      have HFF := hid (field_facts (fault0 HF.out).2.1)
      have HNL : Hid (n = l.length) := HIW.out.1
      have hn1 : 1 ≤ n ∧ n ≤ 9 := by have := HFF.out.2.2.2.2.2.1; have := HFF.out.2.2.2.2.2.2.1; have := HNL.out; omega
      have HN1 := hid hn1
      have hsm : 0 ≤ sm ∧ sm ≤ 9 := ⟨(oks_of HF.out).sm0, (oks_of HF.out).sm9⟩
      have HSM := hid hsm
      obtain ⟨m0, hm0⟩ : ∃ a, x % 4 = a := ⟨_, rfl⟩
      have hm0b : 0 ≤ m0 ∧ m0 ≤ 3 := by omega
      obtain ⟨s1, hs1⟩ : ∃ a, (if sm + m0 < 9 then sm + m0 else 9) = a := ⟨_, rfl⟩
      have hs1b : sm ≤ s1 ∧ 0 ≤ s1 ∧ s1 ≤ 9 := by rw [← hs1]; split <;> omega
      have HS1B := hid hs1b
      obtain ⟨pi, hpi⟩ : ∃ a : Int, y % (n : Int) = a := ⟨_, rfl⟩
      have hpb : 0 ≤ pi ∧ pi < n := by rw [← hpi]; exact ⟨Int.emod_nonneg _ (by omega), Int.emod_lt_of_pos _ (by omega)⟩
      obtain ⟨pl, rfl⟩ : ∃ a : Nat, pi = (a : Int) := ⟨pi.toNat, by omega⟩
      have hpn : pl < n := by omega
      have HPN := hid hpn
      have e1 : IntKind.i64.wrap x = x := IntWalk.i64_in _ (by have := HXX.out; omega)
      have e2 : IntKind.i64.wrap y = y := IntWalk.i64_in _ (by have := HY.out; omega)
      have e3 : x.tmod 4 = m0 := by rw [Int.tmod_eq_emod_of_nonneg HXX.out.1]; exact hm0
      have e3w : IntKind.i64.wrap m0 = m0 := IntWalk.i64_in _ (by omega)
      have e4 : IntKind.i64.wrap (sm + m0) = sm + m0 := IntWalk.i64_in _ (by omega)
      have e5 : ¬ (n : Int) = 0 := by omega
      have e5b : ¬ n = 0 := by omega
      have e6 : y.tmod (n : Int) = (pl : Int) := by rw [Int.tmod_eq_emod_of_nonneg HY.out.1]; exact hpi
      have e7 : IntKind.i64.wrap (pl : Int) = (pl : Int) := IntWalk.i64_in _ (by omega)
      clear hm0 hm0b hs1b hpi hpb hn1 hsm
      obtain ⟨bp, op, hpp, _, _⟩ := HIW.out.at HPN.out
      subst hpp
      obtain ⟨w4, hw4⟩ : ∃ a, wc.setCell ⟨bx, 3, none⟩ (.int .i64 s1) = a := ⟨_, rfl⟩
      obtain ⟨w5, hw5⟩ : ∃ a, w4.setCell ⟨bz, 3, none⟩ (.int .i64 9) = a := ⟨_, rfl⟩
      have k3 := (HX5.out.2 3 _ rfl).1; have f3 := (HX5.out.2 3 _ rfl).2
      have HX4 := hid (HX5.out.put (j := 3) (.int .i64 s1)); have HZ4 := hid (HZ5.out.other (k' := 3) HNE.out.symm (.int .i64 s1))
      rw [hw4] at HX4 HZ4
      have kz3 := (HZ4.out.2 3 _ rfl).1; have fz3 := (HZ4.out.2 3 _ rfl).2
      have HX6 := hid (HX4.out.other (k' := 3) HNE.out (.int .i64 9)); have HZ6 := hid (HZ4.out.put (j := 3) (.int .i64 9))
      rw [hw5] at HX6 HZ6
      have HB5 : Hid (Below (w.heap.size + 1) (w.alloc (.cells #[.int .i64 r, .int .i64 cc, .slice (some ⟨bp, op, none⟩) n c, .int .i64 sm, .slice q m d] 27)) w5) := by rw [← hw5, ← hw4]; exact (HB3.out.setCell (p := ⟨bx, 3, none⟩) (by have := HLX.out; exact this) _).setCell (p := ⟨bz, 3, none⟩) (by have := HLZ.out; exact this) _
      have HS5 := hid (HSV.out _ HB5.out)
      have s3 := HS3.out.c3
      have g0 := HS5.out.c0; have g1 := HS5.out.c1; have g2 := HS5.out.c2; have g3 := HS5.out.c3; have g4 := HS5.out.c4
      obtain ⟨lp, hlp⟩ : ∃ a, l[pl]?.getD 0 = a := ⟨_, rfl⟩
      have hcp := HS5.out.ints.get HPN.out
      rw [hlp] at hcp
      have HLP := hid hlp
      clear hlp
      obtain ⟨w6, hw6⟩ : ∃ a, w5.alloc (.cells #[.int .i64 0, .int .i64 lp] 62) = a := ⟨_, rfl⟩
      have hb6 : Below w5.heap.size w5 w6 := by rw [← hw6]; exact (Below.refl _ _).alloc (Nat.le_refl _) _
      have HD6 : Hid (BoxIs w5.heap.size #[.int .i64 0, .int .i64 lp] w6) := by rw [← hw6]; exact BoxIs.start _ _ _
      have HB6 := hid hb6
      clear hb6
      go_wp2_with fail
      clear g0 g1 g2 g3 g4 k3 f3 kz3 fz3 s3 hcp e1 e2 e3 e3w e4 e5 e5b e6 e7
      go_loopw [11] (fun i wr => ∃ (k : Nat) (a b : Int), k ≤ m ∧ i = .int .i64 k ∧ Below w5.heap.size w5 wr ∧ BoxIs w5.heap.size #[.int .i64 a, .int .i64 b] wr ∧ dueG pl (cs.drop k) a b = dueG pl cs 0 lp) (fun i _ => m - (intOf i).toNat)
      case atStart => exact ⟨0, 0, lp, by omega, rfl, HB6.out, HD6.out, rfl⟩
      case round =>
        obtain ⟨k, a, b, hk, rfl, hB, hD, hE⟩ := hrel
        have HB := hid hB; have HD := hid hD; have HE := hid hE
        clear hB hD hE
        have HS7 := hid (HS5.out.step HB.out)
        have g0 := HS7.out.c0; have g1 := HS7.out.c1; have g2 := HS7.out.c2; have g3 := HS7.out.c3; have g4 := HS7.out.c4
        by_cases hlt : k < m
        · skip
          obtain ⟨x, hx0, bq, oq, hq, _, hc0, hc1, hc2, hc3⟩ := HS7.out.cnts.at hlt
          subst hq
          have hm9 : m ≤ 9 := HN.out.2
          have HDK : Hid (cs.drop k = x :: cs.drop (k + 1)) := drop_cnt hx0
          obtain ⟨xp, hxp⟩ : ∃ z, x.place = z := ⟨_, rfl⟩
          obtain ⟨xl, hxl⟩ : ∃ z, x.late = z := ⟨_, rfl⟩
          have HXL := hid hxl; have HXP := hid hxp
          rw [hxp] at hc0
          rw [hxl] at hc3
          clear hxp hxl
          obtain ⟨w8, hw8⟩ : ∃ a, wr.alloc (.cells #[.int .i64 xp, .int .i64 x.lo, .int .i64 x.hi, .bool xl] 59) = a := ⟨_, rfl⟩
          have hb8 : Below wr.heap.size wr w8 := by rw [← hw8]; exact (Below.refl _ _).alloc (Nat.le_refl _) _
          have hy8 : BoxIs wr.heap.size #[.int .i64 xp, .int .i64 x.lo, .int .i64 x.hi, .bool xl] w8 := by rw [← hw8]; exact BoxIs.start _ _ _
          have y0 := (hy8.2 0 _ rfl).1; have y1 := (hy8.2 1 _ rfl).1; have y2 := (hy8.2 2 _ rfl).1; have y3 := (hy8.2 3 _ rfl).1; have q0 := (hy8.2 0 _ rfl).2; have q1 := (hy8.2 1 _ rfl).2; have q2 := (hy8.2 2 _ rfl).2; have q3 := (hy8.2 3 _ rfl).2
          have HB8 := hid (HB.out.trans (hb8.mono HB.out.size)); have HD8 := hid (HD.out.below hb8)
          have u0 := (HD8.out.2 0 _ rfl).1; have u1 := (HD8.out.2 1 _ rfl).1
          have HY8 := hid hy8
          clear hx0 hb8 hy8
          by_cases hpp : xp = (pl : Int)
          · subst hpp
            go_upto_region 11 with fail
            cases xl with
            | false =>
              have HPL : Hid ((decide (x.place = (pl : Int)) && !x.late) = true) := by show _ = _; rw [HXL.out, HXP.out]; simp
              obtain ⟨a1, ha1⟩ : ∃ z, (if a < x.lo then x.lo else a) = z := ⟨_, rfl⟩
              obtain ⟨b1, hb1⟩ : ∃ z, (if x.hi < b then x.hi else b) = z := ⟨_, rfl⟩
              have HEN : Hid (dueG pl (cs.drop (k + 1)) a1 b1 = dueG pl cs 0 lp) := by have h := HE.out; rw [HDK.out, dueG, if_pos HPL.out, ha1, hb1] at h; exact h
              go_wp2_with fail
              refine (between_any _ _ _).mono ?_
              rintro e w9 ⟨rfl, hb⟩
              have HB9 := hid (HB8.out.trans (hb.mono HB8.out.size)); have HD9 := hid (HD8.out.below hb)
              clear hb u0 u1 y0 y1 y2 y3 q0 q1 q2 q3 ha1 hb1
              obtain ⟨wa, hwa⟩ : ∃ z, w9.setCell ⟨w5.heap.size, 0, none⟩ (.int .i64 a1) = z := ⟨_, rfl⟩
              obtain ⟨wb, hwb⟩ : ∃ z, wa.setCell ⟨w5.heap.size, 1, none⟩ (.int .i64 b1) = z := ⟨_, rfl⟩
              have u0 := (HD9.out.2 0 _ rfl).1; have u1 := (HD9.out.2 1 _ rfl).1; have t0 := (HD9.out.2 0 _ rfl).2; have t1 := (HD9.out.2 1 _ rfl).2
              have HDa := hid (HD9.out.put (j := 0) (.int .i64 a1))
              rw [hwa] at HDa
              have ua := (HDa.out.2 1 _ rfl).1; have ta := (HDa.out.2 1 _ rfl).2
              have HDb := hid (HDa.out.put (j := 1) (.int .i64 b1))
              rw [hwb] at HDb
              have HBb : Hid (Below w5.heap.size w5 wb) := by rw [← hwb, ← hwa]; exact (HB9.out.setCell (p := ⟨w5.heap.size, 0, none⟩) (Nat.le_refl _) _).setCell (p := ⟨w5.heap.size, 1, none⟩) (Nat.le_refl _) _
              go_wp2
              go_roundw
              case rel => exact ⟨k + 1, a1, b1, by omega, by go_num, HBb.out, HDb.out, HEN.out⟩
              case measure => simp [intOf]; omega
            | true =>
              have HPL : Hid (¬ (decide (x.place = (pl : Int)) && !x.late) = true) := by show ¬ _; rw [HXL.out]; simp
              have HEN : Hid (dueG pl (cs.drop (k + 1)) a b = dueG pl cs 0 lp) := by have h := HE.out; rw [HDK.out, dueG, if_neg HPL.out] at h; exact h
              go_wp2
              go_roundw
              case rel => exact ⟨k + 1, a, b, by omega, by go_num, HB8.out, HD8.out, HEN.out⟩
              case measure => simp [intOf]; omega
          · have hppb : (xp == (pl : Int)) = false := by simp [hpp]
            have HPL : Hid (¬ (decide (x.place = (pl : Int)) && !x.late) = true) := by show ¬ _; rw [HXP.out]; simp [hpp]
            have HEN : Hid (dueG pl (cs.drop (k + 1)) a b = dueG pl cs 0 lp) := by have h := HE.out; rw [HDK.out, dueG, if_neg HPL.out] at h; exact h
            go_wp2
            go_roundw
            case rel => exact ⟨k + 1, a, b, by omega, by go_num, HB8.out, HD8.out, HEN.out⟩
            case measure => simp [intOf]; omega
        · skip
          obtain rfl : m = k := by omega
          have hE : dueG pl cs 0 lp = (a, b) := by have h := HE.out; rw [← h, HCW.out.1, List.drop_length]; rfl
          rw [← HLP.out] at hE
          have HEE := hid hE
          clear hE
          obtain ⟨w20, hwr⟩ : ∃ z, wr = z := ⟨_, rfl⟩
          rw [hwr] at HS7 HB HD g0 g1 g2 g3 g4 ⊢
          clear hwr
          have HS20 := HS7
          have HX20 := hid ((HX6.out.below HB.out).sbox HS20.out.ints HS20.out.cnts); have HZ20 := hid ((HZ6.out.below HB.out).sbox HS20.out.ints HS20.out.cnts)
          have HD20 : Hid (TwoAt w20 w5.heap.size a b) := ⟨(HD.out.2 0 _ rfl).1, (HD.out.2 1 _ rfl).1⟩
          have z0 := HZ20.out.c0; have x0 := HX20.out.c0; have z1 := HZ20.out.c1; have x1 := HX20.out.c1; have z2 := HZ20.out.c2; have x2 := HX20.out.c2; have z3 := HZ20.out.c3; have x3 := HX20.out.c3; have z4 := HZ20.out.c4; have x4 := HX20.out.c4
          obtain ⟨cy, hcy⟩ : ∃ z, ((thinB n m && decide (faultL r cc l 9 cs = 0)) && canB cc l 9 cs 0) = z := ⟨_, rfl⟩
          have HCY := hid hcy
          obtain ⟨cs0, hcs0⟩ : ∃ z, ((thinB n m && decide (faultL r cc l sm cs = 0)) && canB cc l sm cs 0) = z := ⟨_, rfl⟩
          have HCS := hid hcs0
          go_wp2_with fail
          refine (canX_any r cc (some ⟨bp, op, none⟩) n c l 9 q m d cs _ HZ20.out.ints HZ20.out.cnts).mono ?_
          rintro e w21 ⟨rfl, hb⟩
          have HS21 := hid (HS20.out.step hb)
          have HX21 := hid (HX20.out.below hb)
          have HZ21 := hid (HZ20.out.below hb)
          have HD21 := hid (HD20.out.below hb)
          rw [hcy]
          clear hcy
          clear hb z0 z1 z2 z3 z4 x0 x1 x2 x3 x4 g0 g1 g2 g3 g4
          have g0 := HS21.out.c0; have g1 := HS21.out.c1; have g2 := HS21.out.c2; have g3 := HS21.out.c3; have g4 := HS21.out.c4
          have z0 := HZ21.out.c0; have x0 := HX21.out.c0; have z1 := HZ21.out.c1; have x1 := HX21.out.c1; have z2 := HZ21.out.c2; have x2 := HX21.out.c2; have z3 := HZ21.out.c3; have x3 := HX21.out.c3; have z4 := HZ21.out.c4; have x4 := HX21.out.c4
          have HF9 := hid (fault_sm HF.out (t := 9) (by decide) (by decide)); have HF1 := hid (fault_sm HF.out (t := s1) HS1B.out.2.1 HS1B.out.2.2)
          have hgs : cs0 = true → genP (okP cs [] cc sm) l 0 [] ≠ [] := fun e => by have h := HCS.out; rw [e] at h; simp only [Bool.and_eq_true] at h; exact can_gen HF.out h.2
          have hsub9 : ∀ z ∈ genP (okP cs [] cc sm) l 0 [], z ∈ genP (okP cs [] cc 9) l 0 [] := fun z hz => smooth_sub HF.out HF9.out HSM.out.2 hz
          have hsub1 : ∀ z ∈ genP (okP cs [] cc sm) l 0 [], z ∈ genP (okP cs [] cc s1) l 0 [] := fun z hz => smooth_sub HF.out HF1.out HS1B.out.1 hz
          have HG := hid hgs; have HSB9 := hid hsub9; have HSB1 := hid hsub1
          clear hgs hsub9 hsub1
          cases cy with
          | true =>
            have hgy : genP (okP cs [] cc 9) l 0 [] ≠ [] := by have h := HCY.out; simp only [Bool.and_eq_true] at h; exact can_gen HF9.out h.2
            have hpl : pl < l.length := by have := HPN.out; have := HNL.out; omega
            have hH9 : hitsR (pl : Int) r cc l 9 cs = (a, b, 0) := by
              obtain ⟨u, v, h1, h2⟩ := hits_span (k := pl) HF9.out hgy hpl
              have h3 := due_span HF9.out hpl hgy
              rw [HEE.out] at h3
              obtain ⟨rfl, rfl⟩ := h2.unique h3
              exact h1
            have HH9 := hid hH9; have HPLL := hid hpl
            clear hgy hH9 hpl
            go_wp2_with fail
            refine (surveyX_any r cc (some ⟨bp, op, none⟩) n c l 9 q m d cs _ HZ21.out.ints HZ21.out.cnts (by have := HN.out; omega) (by have := HN.out; omega)).mono ?_
            rintro e w22 ⟨p1, n1, c1, q1, m1, d1, rfl, hi3, hc3, hb⟩
            have HS22 := hid (HS21.out.step hb)
            have HX22 := hid (HX21.out.below hb)
            have HZ22 := hid (HZ21.out.below hb)
            have HD22 := hid (HD21.out.below hb)
            have HI22 := hid hi3; have HC22 := hid hc3; clear hi3 hc3
            have HL1 : Hid (n1 ≤ 12 ∧ m1 ≤ 9) := ⟨by have := HI22.out.1; have := HZ22.out.ints.1; have := HN.out; omega, by have := HC22.out.1; have := HZ22.out.cnts.1; have := HN.out; omega⟩
            clear hb z0 z1 z2 z3 z4 x0 x1 x2 x3 x4 g0 g1 g2 g3 g4
            have g0 := HS22.out.c0; have g1 := HS22.out.c1; have g2 := HS22.out.c2; have g3 := HS22.out.c3; have g4 := HS22.out.c4
            have z0 := HZ22.out.c0; have x0 := HX22.out.c0; have z1 := HZ22.out.c1; have x1 := HX22.out.c1; have z2 := HZ22.out.c2; have x2 := HX22.out.c2; have z3 := HZ22.out.c3; have x3 := HX22.out.c3; have z4 := HZ22.out.c4; have x4 := HX22.out.c4
            go_wp2_with fail
            refine (Hits_any r cc p1 n1 c1 l 9 q1 m1 d1 cs (pl : Int) _ HI22.out HC22.out (by have := HL1.out; omega) (by have := HL1.out; omega)).mono ?_
            rintro e w23 ⟨rfl, hb⟩
            have HS23 := hid (HS22.out.step hb)
            have HX23 := hid (HX22.out.below hb)
            have HZ23 := hid (HZ22.out.below hb)
            have HD23 := hid (HD22.out.below hb)
            rw [HH9.out]
            clear hb z0 z1 z2 z3 z4 x0 x1 x2 x3 x4 g0 g1 g2 g3 g4
            have g0 := HS23.out.c0; have g1 := HS23.out.c1; have g2 := HS23.out.c2; have g3 := HS23.out.c3; have g4 := HS23.out.c4
            have z0 := HZ23.out.c0; have x0 := HX23.out.c0; have z1 := HZ23.out.c1; have x1 := HX23.out.c1; have z2 := HZ23.out.c2; have x2 := HX23.out.c2; have z3 := HZ23.out.c3; have x3 := HX23.out.c3; have z4 := HZ23.out.c4; have x4 := HX23.out.c4
            obtain ⟨w24, hw⟩ : ∃ w24, w23.alloc (.cells #[.int .i64 a, .int .i64 b] 62) = w24 := ⟨_, rfl⟩
            have hb : Below w23.heap.size w23 w24 := by rw [← hw]; exact (Below.refl _ _).alloc (Nat.le_refl _) _
            have HS24 := hid (HS23.out.step hb)
            have HX24 := hid (HX23.out.below hb)
            have HZ24 := hid (HZ23.out.below hb)
            have HD24 := hid (HD23.out.below hb)
            have HTY24 : Hid (TwoAt w24 w23.heap.size a b) := by rw [← hw]; exact ⟨cell_box w23 _ 62 0 _ rfl, cell_box w23 _ 62 1 _ rfl⟩
            clear hb g0 g1 g2 g3 g4 z0 z1 z2 z3 z4 x0 x1 x2 x3 x4
            have g0 := HS24.out.c0; have g1 := HS24.out.c1; have g2 := HS24.out.c2; have g3 := HS24.out.c3; have g4 := HS24.out.c4
            have z0 := HZ24.out.c0; have x0 := HX24.out.c0; have z1 := HZ24.out.c1; have x1 := HX24.out.c1; have z2 := HZ24.out.c2; have x2 := HX24.out.c2; have z3 := HZ24.out.c3; have x3 := HX24.out.c3; have z4 := HZ24.out.c4; have x4 := HX24.out.c4
            have ⟨v0, v1⟩ := HTY24.out; have ⟨u0, u1⟩ := HD24.out
            go_wp2_with fail
            refine (canX_any r cc (some ⟨bp, op, none⟩) n c l sm q m d cs _ HS24.out.ints HS24.out.cnts).mono ?_
            rintro e w25 ⟨rfl, hb⟩
            have HS25 := hid (HS24.out.step hb)
            have HX25 := hid (HX24.out.below hb)
            have HZ25 := hid (HZ24.out.below hb)
            have HD25 := hid (HD24.out.below hb)
            have HTY25 := hid (HTY24.out.below hb)
            rw [hcs0]
            clear hcs0
            clear hb z0 z1 z2 z3 z4 x0 x1 x2 x3 x4 g0 g1 g2 g3 g4
            have g0 := HS25.out.c0; have g1 := HS25.out.c1; have g2 := HS25.out.c2; have g3 := HS25.out.c3; have g4 := HS25.out.c4
            have z0 := HZ25.out.c0; have x0 := HX25.out.c0; have z1 := HZ25.out.c1; have x1 := HX25.out.c1; have z2 := HZ25.out.c2; have x2 := HX25.out.c2; have z3 := HZ25.out.c3; have x3 := HX25.out.c3; have z4 := HZ25.out.c4; have x4 := HX25.out.c4
            clear v0 v1 u0 u1
            cases cs0 with
            | true =>
              have hG := HG.out rfl
              have hG1 : genP (okP cs [] cc s1) l 0 [] ≠ [] := by
                intro e
                cases h : genP (okP cs [] cc sm) l 0 [] with
                | nil => exact hG h
                | cons u v => have := HSB1.out u (by rw [h]; simp); rw [e] at this; cases this
              obtain ⟨alo, ahi, hA1, hA2⟩ := bnd_span (F := shareL l) HF.out hG
              obtain ⟨blo, bhi, hB1, hB2⟩ := bnd_span (F := shareL l) HF1.out hG1
              obtain ⟨clo, chi, hC1, hC2⟩ := hits_span (k := pl) HF.out hG HPLL.out
              obtain ⟨dlo, dhi, hD1, hD2⟩ := hits_span (k := pl) HF1.out hG1 HPLL.out
              have HAB := hid (Span.sub HSB1.out hA2 hB2); have HCD := hid (Span.sub HSB1.out hC2 hD2)
              have HA1 := hid hA1; have HB1 := hid hB1; have HC1 := hid hC1; have HD1 := hid hD1
              clear hG hG1 hA1 hA2 hB1 hB2 hC1 hC2 hD1 hD2
              go_wp2_with fail
              refine (surveyX_any r cc (some ⟨bp, op, none⟩) n c l sm q m d cs _ HS25.out.ints HS25.out.cnts (by have := HN.out; omega) (by have := HN.out; omega)).mono ?_
              rintro e w26 ⟨p2, n2, c2, q2, m2, d2, rfl, hi3, hc3, hb⟩
              have HS26 := hid (HS25.out.step hb)
              have HX26 := hid (HX25.out.below hb)
              have HZ26 := hid (HZ25.out.below hb)
              have HD26 := hid (HD25.out.below hb)
              have HTY26 := hid (HTY25.out.below hb)
              have HI26 := hid hi3; have HC26 := hid hc3; clear hi3 hc3
              have HL2 : Hid (n2 ≤ 12 ∧ m2 ≤ 9) := ⟨by have := HI26.out.1; have := HS26.out.ints.1; have := HN.out; omega, by have := HC26.out.1; have := HS26.out.cnts.1; have := HN.out; omega⟩
              clear hb z0 z1 z2 z3 z4 x0 x1 x2 x3 x4 g0 g1 g2 g3 g4
              have g0 := HS26.out.c0; have g1 := HS26.out.c1; have g2 := HS26.out.c2; have g3 := HS26.out.c3; have g4 := HS26.out.c4
              have z0 := HZ26.out.c0; have x0 := HX26.out.c0; have z1 := HZ26.out.c1; have x1 := HX26.out.c1; have z2 := HZ26.out.c2; have x2 := HX26.out.c2; have z3 := HZ26.out.c3; have x3 := HX26.out.c3; have z4 := HZ26.out.c4; have x4 := HX26.out.c4
              go_wp2_with fail
              refine (Bounds_any r cc p2 n2 c2 l sm q2 m2 d2 cs _ HI26.out HC26.out (by have := HL2.out; omega) (by have := HL2.out; omega)).mono ?_
              rintro e w27 ⟨rfl, hb⟩
              have HS27 := hid (HS26.out.step hb)
              have HX27 := hid (HX26.out.below hb)
              have HZ27 := hid (HZ26.out.below hb)
              have HD27 := hid (HD26.out.below hb)
              have HTY27 := hid (HTY26.out.below hb)
              rw [HA1.out]
              clear hb z0 z1 z2 z3 z4 x0 x1 x2 x3 x4 g0 g1 g2 g3 g4
              have g0 := HS27.out.c0; have g1 := HS27.out.c1; have g2 := HS27.out.c2; have g3 := HS27.out.c3; have g4 := HS27.out.c4
              have z0 := HZ27.out.c0; have x0 := HX27.out.c0; have z1 := HZ27.out.c1; have x1 := HX27.out.c1; have z2 := HZ27.out.c2; have x2 := HX27.out.c2; have z3 := HZ27.out.c3; have x3 := HX27.out.c3; have z4 := HZ27.out.c4; have x4 := HX27.out.c4
              obtain ⟨w28, hw⟩ : ∃ w28, w27.alloc (.cells #[.int .i64 alo, .int .i64 ahi] 62) = w28 := ⟨_, rfl⟩
              have hb : Below w27.heap.size w27 w28 := by rw [← hw]; exact (Below.refl _ _).alloc (Nat.le_refl _) _
              have HS28 := hid (HS27.out.step hb)
              have HX28 := hid (HX27.out.below hb)
              have HZ28 := hid (HZ27.out.below hb)
              have HD28 := hid (HD27.out.below hb)
              have HTY28 := hid (HTY27.out.below hb)
              have HTA28 : Hid (TwoAt w28 w27.heap.size alo ahi) := by rw [← hw]; exact ⟨cell_box w27 _ 62 0 _ rfl, cell_box w27 _ 62 1 _ rfl⟩
              clear hb g0 g1 g2 g3 g4 z0 z1 z2 z3 z4 x0 x1 x2 x3 x4
              have g0 := HS28.out.c0; have g1 := HS28.out.c1; have g2 := HS28.out.c2; have g3 := HS28.out.c3; have g4 := HS28.out.c4
              have z0 := HZ28.out.c0; have x0 := HX28.out.c0; have z1 := HZ28.out.c1; have x1 := HX28.out.c1; have z2 := HZ28.out.c2; have x2 := HX28.out.c2; have z3 := HZ28.out.c3; have x3 := HX28.out.c3; have z4 := HZ28.out.c4; have x4 := HX28.out.c4
              go_wp2_with fail
              refine (surveyX_any r cc (some ⟨bp, op, none⟩) n c l s1 q m d cs _ HX28.out.ints HX28.out.cnts (by have := HN.out; omega) (by have := HN.out; omega)).mono ?_
              rintro e w29 ⟨p3, n3, c3, q3, m3, d3, rfl, hi3, hc3, hb⟩
              have HS29 := hid (HS28.out.step hb)
              have HX29 := hid (HX28.out.below hb)
              have HZ29 := hid (HZ28.out.below hb)
              have HD29 := hid (HD28.out.below hb)
              have HTY29 := hid (HTY28.out.below hb)
              have HTA29 := hid (HTA28.out.below hb)
              have HI29 := hid hi3; have HC29 := hid hc3; clear hi3 hc3
              have HL3 : Hid (n3 ≤ 12 ∧ m3 ≤ 9) := ⟨by have := HI29.out.1; have := HX29.out.ints.1; have := HN.out; omega, by have := HC29.out.1; have := HX29.out.cnts.1; have := HN.out; omega⟩
              clear hb z0 z1 z2 z3 z4 x0 x1 x2 x3 x4 g0 g1 g2 g3 g4
              have g0 := HS29.out.c0; have g1 := HS29.out.c1; have g2 := HS29.out.c2; have g3 := HS29.out.c3; have g4 := HS29.out.c4
              have z0 := HZ29.out.c0; have x0 := HX29.out.c0; have z1 := HZ29.out.c1; have x1 := HX29.out.c1; have z2 := HZ29.out.c2; have x2 := HX29.out.c2; have z3 := HZ29.out.c3; have x3 := HX29.out.c3; have z4 := HZ29.out.c4; have x4 := HX29.out.c4
              go_wp2_with fail
              refine (Bounds_any r cc p3 n3 c3 l s1 q3 m3 d3 cs _ HI29.out HC29.out (by have := HL3.out; omega) (by have := HL3.out; omega)).mono ?_
              rintro e w30 ⟨rfl, hb⟩
              have HS30 := hid (HS29.out.step hb)
              have HX30 := hid (HX29.out.below hb)
              have HZ30 := hid (HZ29.out.below hb)
              have HD30 := hid (HD29.out.below hb)
              have HTY30 := hid (HTY29.out.below hb)
              have HTA30 := hid (HTA29.out.below hb)
              rw [HB1.out]
              clear hb z0 z1 z2 z3 z4 x0 x1 x2 x3 x4 g0 g1 g2 g3 g4
              have g0 := HS30.out.c0; have g1 := HS30.out.c1; have g2 := HS30.out.c2; have g3 := HS30.out.c3; have g4 := HS30.out.c4
              have z0 := HZ30.out.c0; have x0 := HX30.out.c0; have z1 := HZ30.out.c1; have x1 := HX30.out.c1; have z2 := HZ30.out.c2; have x2 := HX30.out.c2; have z3 := HZ30.out.c3; have x3 := HX30.out.c3; have z4 := HZ30.out.c4; have x4 := HX30.out.c4
              obtain ⟨w31, hw⟩ : ∃ w31, w30.alloc (.cells #[.int .i64 blo, .int .i64 bhi] 62) = w31 := ⟨_, rfl⟩
              have hb : Below w30.heap.size w30 w31 := by rw [← hw]; exact (Below.refl _ _).alloc (Nat.le_refl _) _
              have HS31 := hid (HS30.out.step hb)
              have HX31 := hid (HX30.out.below hb)
              have HZ31 := hid (HZ30.out.below hb)
              have HD31 := hid (HD30.out.below hb)
              have HTY31 := hid (HTY30.out.below hb)
              have HTA31 := hid (HTA30.out.below hb)
              have HTB31 : Hid (TwoAt w31 w30.heap.size blo bhi) := by rw [← hw]; exact ⟨cell_box w30 _ 62 0 _ rfl, cell_box w30 _ 62 1 _ rfl⟩
              clear hb g0 g1 g2 g3 g4 z0 z1 z2 z3 z4 x0 x1 x2 x3 x4
              have g0 := HS31.out.c0; have g1 := HS31.out.c1; have g2 := HS31.out.c2; have g3 := HS31.out.c3; have g4 := HS31.out.c4
              have z0 := HZ31.out.c0; have x0 := HX31.out.c0; have z1 := HZ31.out.c1; have x1 := HX31.out.c1; have z2 := HZ31.out.c2; have x2 := HX31.out.c2; have z3 := HZ31.out.c3; have x3 := HX31.out.c3; have z4 := HZ31.out.c4; have x4 := HX31.out.c4
              go_wp2_with fail
              refine (surveyX_any r cc (some ⟨bp, op, none⟩) n c l sm q m d cs _ HS31.out.ints HS31.out.cnts (by have := HN.out; omega) (by have := HN.out; omega)).mono ?_
              rintro e w32 ⟨p4, n4, c4, q4, m4, d4, rfl, hi3, hc3, hb⟩
              have HS32 := hid (HS31.out.step hb)
              have HX32 := hid (HX31.out.below hb)
              have HZ32 := hid (HZ31.out.below hb)
              have HD32 := hid (HD31.out.below hb)
              have HTY32 := hid (HTY31.out.below hb)
              have HTA32 := hid (HTA31.out.below hb)
              have HTB32 := hid (HTB31.out.below hb)
              have HI32 := hid hi3; have HC32 := hid hc3; clear hi3 hc3
              have HL4 : Hid (n4 ≤ 12 ∧ m4 ≤ 9) := ⟨by have := HI32.out.1; have := HS32.out.ints.1; have := HN.out; omega, by have := HC32.out.1; have := HS32.out.cnts.1; have := HN.out; omega⟩
              clear hb z0 z1 z2 z3 z4 x0 x1 x2 x3 x4 g0 g1 g2 g3 g4
              have g0 := HS32.out.c0; have g1 := HS32.out.c1; have g2 := HS32.out.c2; have g3 := HS32.out.c3; have g4 := HS32.out.c4
              have z0 := HZ32.out.c0; have x0 := HX32.out.c0; have z1 := HZ32.out.c1; have x1 := HX32.out.c1; have z2 := HZ32.out.c2; have x2 := HX32.out.c2; have z3 := HZ32.out.c3; have x3 := HX32.out.c3; have z4 := HZ32.out.c4; have x4 := HX32.out.c4
              go_wp2_with fail
              refine (Hits_any r cc p4 n4 c4 l sm q4 m4 d4 cs (pl : Int) _ HI32.out HC32.out (by have := HL4.out; omega) (by have := HL4.out; omega)).mono ?_
              rintro e w33 ⟨rfl, hb⟩
              have HS33 := hid (HS32.out.step hb)
              have HX33 := hid (HX32.out.below hb)
              have HZ33 := hid (HZ32.out.below hb)
              have HD33 := hid (HD32.out.below hb)
              have HTY33 := hid (HTY32.out.below hb)
              have HTA33 := hid (HTA32.out.below hb)
              have HTB33 := hid (HTB32.out.below hb)
              rw [HC1.out]
              clear hb z0 z1 z2 z3 z4 x0 x1 x2 x3 x4 g0 g1 g2 g3 g4
              have g0 := HS33.out.c0; have g1 := HS33.out.c1; have g2 := HS33.out.c2; have g3 := HS33.out.c3; have g4 := HS33.out.c4
              have z0 := HZ33.out.c0; have x0 := HX33.out.c0; have z1 := HZ33.out.c1; have x1 := HX33.out.c1; have z2 := HZ33.out.c2; have x2 := HX33.out.c2; have z3 := HZ33.out.c3; have x3 := HX33.out.c3; have z4 := HZ33.out.c4; have x4 := HX33.out.c4
              obtain ⟨w34, hw⟩ : ∃ w34, w33.alloc (.cells #[.int .i64 clo, .int .i64 chi] 62) = w34 := ⟨_, rfl⟩
              have hb : Below w33.heap.size w33 w34 := by rw [← hw]; exact (Below.refl _ _).alloc (Nat.le_refl _) _
              have HS34 := hid (HS33.out.step hb)
              have HX34 := hid (HX33.out.below hb)
              have HZ34 := hid (HZ33.out.below hb)
              have HD34 := hid (HD33.out.below hb)
              have HTY34 := hid (HTY33.out.below hb)
              have HTA34 := hid (HTA33.out.below hb)
              have HTB34 := hid (HTB33.out.below hb)
              have HTC34 : Hid (TwoAt w34 w33.heap.size clo chi) := by rw [← hw]; exact ⟨cell_box w33 _ 62 0 _ rfl, cell_box w33 _ 62 1 _ rfl⟩
              clear hb g0 g1 g2 g3 g4 z0 z1 z2 z3 z4 x0 x1 x2 x3 x4
              have g0 := HS34.out.c0; have g1 := HS34.out.c1; have g2 := HS34.out.c2; have g3 := HS34.out.c3; have g4 := HS34.out.c4
              have z0 := HZ34.out.c0; have x0 := HX34.out.c0; have z1 := HZ34.out.c1; have x1 := HX34.out.c1; have z2 := HZ34.out.c2; have x2 := HX34.out.c2; have z3 := HZ34.out.c3; have x3 := HX34.out.c3; have z4 := HZ34.out.c4; have x4 := HX34.out.c4
              go_wp2_with fail
              refine (surveyX_any r cc (some ⟨bp, op, none⟩) n c l s1 q m d cs _ HX34.out.ints HX34.out.cnts (by have := HN.out; omega) (by have := HN.out; omega)).mono ?_
              rintro e w35 ⟨p5, n5, c5, q5, m5, d5, rfl, hi3, hc3, hb⟩
              have HS35 := hid (HS34.out.step hb)
              have HX35 := hid (HX34.out.below hb)
              have HZ35 := hid (HZ34.out.below hb)
              have HD35 := hid (HD34.out.below hb)
              have HTY35 := hid (HTY34.out.below hb)
              have HTA35 := hid (HTA34.out.below hb)
              have HTB35 := hid (HTB34.out.below hb)
              have HTC35 := hid (HTC34.out.below hb)
              have HI35 := hid hi3; have HC35 := hid hc3; clear hi3 hc3
              have HL5 : Hid (n5 ≤ 12 ∧ m5 ≤ 9) := ⟨by have := HI35.out.1; have := HX35.out.ints.1; have := HN.out; omega, by have := HC35.out.1; have := HX35.out.cnts.1; have := HN.out; omega⟩
              clear hb z0 z1 z2 z3 z4 x0 x1 x2 x3 x4 g0 g1 g2 g3 g4
              have g0 := HS35.out.c0; have g1 := HS35.out.c1; have g2 := HS35.out.c2; have g3 := HS35.out.c3; have g4 := HS35.out.c4
              have z0 := HZ35.out.c0; have x0 := HX35.out.c0; have z1 := HZ35.out.c1; have x1 := HX35.out.c1; have z2 := HZ35.out.c2; have x2 := HX35.out.c2; have z3 := HZ35.out.c3; have x3 := HX35.out.c3; have z4 := HZ35.out.c4; have x4 := HX35.out.c4
              go_wp2_with fail
              refine (Hits_any r cc p5 n5 c5 l s1 q5 m5 d5 cs (pl : Int) _ HI35.out HC35.out (by have := HL5.out; omega) (by have := HL5.out; omega)).mono ?_
              rintro e w36 ⟨rfl, hb⟩
              have HS36 := hid (HS35.out.step hb)
              have HX36 := hid (HX35.out.below hb)
              have HZ36 := hid (HZ35.out.below hb)
              have HD36 := hid (HD35.out.below hb)
              have HTY36 := hid (HTY35.out.below hb)
              have HTA36 := hid (HTA35.out.below hb)
              have HTB36 := hid (HTB35.out.below hb)
              have HTC36 := hid (HTC35.out.below hb)
              rw [HD1.out]
              clear hb z0 z1 z2 z3 z4 x0 x1 x2 x3 x4 g0 g1 g2 g3 g4
              have g0 := HS36.out.c0; have g1 := HS36.out.c1; have g2 := HS36.out.c2; have g3 := HS36.out.c3; have g4 := HS36.out.c4
              have z0 := HZ36.out.c0; have x0 := HX36.out.c0; have z1 := HZ36.out.c1; have x1 := HX36.out.c1; have z2 := HZ36.out.c2; have x2 := HX36.out.c2; have z3 := HZ36.out.c3; have x3 := HX36.out.c3; have z4 := HZ36.out.c4; have x4 := HX36.out.c4
              obtain ⟨w37, hw⟩ : ∃ w37, w36.alloc (.cells #[.int .i64 dlo, .int .i64 dhi] 62) = w37 := ⟨_, rfl⟩
              have hb : Below w36.heap.size w36 w37 := by rw [← hw]; exact (Below.refl _ _).alloc (Nat.le_refl _) _
              have HS37 := hid (HS36.out.step hb)
              have HX37 := hid (HX36.out.below hb)
              have HZ37 := hid (HZ36.out.below hb)
              have HD37 := hid (HD36.out.below hb)
              have HTY37 := hid (HTY36.out.below hb)
              have HTA37 := hid (HTA36.out.below hb)
              have HTB37 := hid (HTB36.out.below hb)
              have HTC37 := hid (HTC36.out.below hb)
              have HTD37 : Hid (TwoAt w37 w36.heap.size dlo dhi) := by rw [← hw]; exact ⟨cell_box w36 _ 62 0 _ rfl, cell_box w36 _ 62 1 _ rfl⟩
              clear hb g0 g1 g2 g3 g4 z0 z1 z2 z3 z4 x0 x1 x2 x3 x4
              have g0 := HS37.out.c0; have g1 := HS37.out.c1; have g2 := HS37.out.c2; have g3 := HS37.out.c3; have g4 := HS37.out.c4
              have z0 := HZ37.out.c0; have x0 := HX37.out.c0; have z1 := HZ37.out.c1; have x1 := HX37.out.c1; have z2 := HZ37.out.c2; have x2 := HX37.out.c2; have z3 := HZ37.out.c3; have x3 := HX37.out.c3; have z4 := HZ37.out.c4; have x4 := HX37.out.c4
              have ⟨at0, at1⟩ := HTA37.out
              have ⟨bt0, bt1⟩ := HTB37.out
              have ⟨ct0, ct1⟩ := HTC37.out
              have ⟨dt0, dt1⟩ := HTD37.out
              have i1 : blo ≤ alo := HAB.out.1
              have i2 : ahi ≤ bhi := HAB.out.2
              have i3 : dlo ≤ clo := HCD.out.1
              have i4 : chi ≤ dhi := HCD.out.2
              go_wp2_with fail
              refine (awake_any _).mono ?_
              rintro e w99 ⟨rfl, hb⟩
              go_wp2_with fail
              go_ret
              exact ⟨rfl, HS37.out.below.trans (hb.mono HS37.out.below.size)⟩
            | false =>
              go_wp2_with fail
              refine (awake_any _).mono ?_
              rintro e w99 ⟨rfl, hb⟩
              go_wp2_with fail
              go_ret
              exact ⟨rfl, HS25.out.below.trans (hb.mono HS25.out.below.size)⟩
          | false =>
            have hc0 : cs0 = false := by
              cases h0 : cs0 with
              | false => rfl
              | true =>
                exfalso
                have hG := HG.out h0
                have hcy2 : canB cc l 9 cs 0 = true := by
                  cases h : genP (okP cs [] cc sm) l 0 [] with
                  | nil => exact absurd h hG
                  | cons u v =>
                    have h5 := HSB9.out u (by rw [h]; simp)
                    obtain ⟨_, h2, _, h4, h6⟩ := fault0 HF9.out
                    have hff := field_facts h2
                    rw [can_mem hff.2.2.1 hff.2.2.2.2.2.2.2 h6 h4 (outIs_nil _)]
                    cases h7 : genP (okP cs [] cc 9) l 0 [] with
                    | nil => rw [h7] at h5; cases h5
                    | cons _ _ => rfl
                have h8 := HCY.out
                have h9 : thinB n m = true := by have h := HCB.out; simp only [Bool.and_eq_true] at h; exact h.1
                rw [hcy2, h9, HF9.out] at h8
                cases h8
            subst hc0
            go_wp2_with fail
            refine (canX_any r cc (some ⟨bp, op, none⟩) n c l sm q m d cs _ HS21.out.ints HS21.out.cnts).mono ?_
            rintro e w22 ⟨rfl, hb⟩
            have HS22 := hid (HS21.out.step hb)
            have HX22 := hid (HX21.out.below hb)
            have HZ22 := hid (HZ21.out.below hb)
            have HD22 := hid (HD21.out.below hb)
            rw [hcs0]
            clear hcs0
            clear hb z0 z1 z2 z3 z4 x0 x1 x2 x3 x4 g0 g1 g2 g3 g4
            have g0 := HS22.out.c0; have g1 := HS22.out.c1; have g2 := HS22.out.c2; have g3 := HS22.out.c3; have g4 := HS22.out.c4
            have z0 := HZ22.out.c0; have x0 := HX22.out.c0; have z1 := HZ22.out.c1; have x1 := HX22.out.c1; have z2 := HZ22.out.c2; have x2 := HX22.out.c2; have z3 := HZ22.out.c3; have x3 := HX22.out.c3; have z4 := HZ22.out.c4; have x4 := HX22.out.c4
            go_wp2_with fail
            refine (awake_any _).mono ?_
            rintro e w99 ⟨rfl, hb⟩
            go_wp2_with fail
            go_ret
            exact ⟨rfl, HS22.out.below.trans (hb.mono HS22.out.below.size)⟩
  | false =>
    go_wp2_with fail
    refine (awake_any _).mono ?_
    rintro e w99 ⟨rfl, hb⟩
    go_wp2_with fail
    go_ret
    exact ⟨rfl, HS2.out.below.trans (hb.mono HS2.out.below.size)⟩
end Go.Proofs.Ytlicijnaacdceaa
