/- FrameMore returns true, whatever its arguments are, but for counts that no machine holds. Condition: at most 2,000,000 counts. -/
import Derived.Test.YtlicijnaacdceaaPlnH
import Derived.Test.YtlicijnaacdceaaLawE
import Derived.Test.YtlicijnaacdceaaLawTrt
import Derived.Deep.Cut
namespace Go.Proofs.Ytlicijnaacdceaa
open Go.RowKit

set_option maxRecDepth 40000 in
set_option maxHeartbeats 32000000 in
theorem frameMore_any (r cc : Int) (p : Option Addr) (n c : Nat) (l : List Int) (sm : Int) (q : Option Addr) (m d : Nat) (cs : List Cnt) (mo : Cnt) (x y : Int) (w : World) (hl : IntsAt w p n l) (hcs : CntsAt w q m cs) (hx : 0 ≤ x ∧ x ≤ 255) (hy : 0 ≤ y ∧ y ≤ 255) (hm : m ≤ 2000000) :
    Calls Try.prog 12 #[.agg #[.int .i64 r, .int .i64 cc, .slice p n c, .int .i64 sm, .slice q m d], .agg #[.int .i64 mo.place, .int .i64 mo.lo, .int .i64 mo.hi, .bool mo.late], .int .u8 x, .int .u8 y] w fun e w' => e = .returned (.bool true) ∧ Below w.heap.size w w' := by
  have HM9 := hid hm
  have HSV : Hid (∀ V, Below (w.heap.size + 2) (((w.alloc (.cells #[.int .i64 r, .int .i64 cc, .slice p n c, .int .i64 sm, .slice q m d] 27)).alloc (.cells #[.int .i64 mo.place, .int .i64 mo.lo, .int .i64 mo.hi, .bool mo.late] 59)).alloc (.cells #[.int .i64 r, .int .i64 cc, .slice p n c, .int .i64 sm, .slice q m d] 27)) V → SAt w r cc p n c l sm q m d cs V) := by
    intro V hV
    have h0 : Below w.heap.size w (((w.alloc (.cells #[.int .i64 r, .int .i64 cc, .slice p n c, .int .i64 sm, .slice q m d] 27)).alloc (.cells #[.int .i64 mo.place, .int .i64 mo.lo, .int .i64 mo.hi, .bool mo.late] 59)).alloc (.cells #[.int .i64 r, .int .i64 cc, .slice p n c, .int .i64 sm, .slice q m d] 27)) := (((Below.refl _ _).alloc (Nat.le_refl _) _).alloc (by simp) _).alloc (by simp; omega) _
    have h1 : Below w.heap.size w V := h0.trans (hV.mono (by omega))
    exact ⟨Boxed1.step' (((Boxed1.start _ _ _).alloc _).alloc _) (hV.mono (by omega)), hl.below h1, hcs.below h1⟩
  obtain ⟨W, hW⟩ : ∃ W, ((w.alloc (.cells #[.int .i64 r, .int .i64 cc, .slice p n c, .int .i64 sm, .slice q m d] 27)).alloc (.cells #[.int .i64 mo.place, .int .i64 mo.lo, .int .i64 mo.hi, .bool mo.late] 59)).alloc (.cells #[.int .i64 r, .int .i64 cc, .slice p n c, .int .i64 sm, .slice q m d] 27) = W := ⟨_, rfl⟩
  have HS1 : Hid (SAt w r cc p n c l sm q m d cs W) := by rw [← hW]; exact ((SAt.start hl hcs).alloc _).alloc _
  have HX := hid hx; have HY := hid hy; have HCQ := hid hcs
  have HSZ : Hid (W.heap.size = w.heap.size + 3) := by show _ = _; rw [← hW]; simp
  have HB1 : Hid (Below (w.heap.size + 1) (w.alloc (.cells #[.int .i64 r, .int .i64 cc, .slice p n c, .int .i64 sm, .slice q m d] 27)) W) := by rw [← hW]; exact ((Below.refl _ _).alloc (by simp) _).alloc (by simp) _
  have HK : Hid (∀ k v, #[Value.int .i64 mo.place, .int .i64 mo.lo, .int .i64 mo.hi, .bool mo.late][k]? = some v → W.cell? ⟨w.heap.size + 1, k, none⟩ = some v) := by
    intro k v hk
    rw [← hW]
    have h1 := cell_box (w.alloc (.cells #[.int .i64 r, .int .i64 cc, .slice p n c, .int .i64 sm, .slice q m d] 27)) #[Value.int .i64 mo.place, .int .i64 mo.lo, .int .i64 mo.hi, .bool mo.late] 59 k v hk
    rw [show (w.alloc (.cells #[.int .i64 r, .int .i64 cc, .slice p n c, .int .i64 sm, .slice q m d] 27)).heap.size = w.heap.size + 1 from by simp] at h1
    exact (((Below.refl _ _).alloc (Nat.le_refl _) _ : Below _ _ _).cell (p := ⟨w.heap.size + 1, k, none⟩) (by simp)).trans h1
  have HKZ : Hid (∀ k v, #[Value.int .i64 r, .int .i64 cc, .slice p n c, .int .i64 sm, .slice q m d][k]? = some v → W.cell? ⟨w.heap.size + 1 + 1, k, none⟩ = some v ∧ W.frozen? ⟨w.heap.size + 1 + 1, k, none⟩ = false) := by
    intro k v hk
    rw [← hW]
    have h1 := cell_box ((w.alloc (.cells #[.int .i64 r, .int .i64 cc, .slice p n c, .int .i64 sm, .slice q m d] 27)).alloc (.cells #[.int .i64 mo.place, .int .i64 mo.lo, .int .i64 mo.hi, .bool mo.late] 59)) #[Value.int .i64 r, .int .i64 cc, .slice p n c, .int .i64 sm, .slice q m d] 27 k v hk
    have h2 := frozen_new ((w.alloc (.cells #[.int .i64 r, .int .i64 cc, .slice p n c, .int .i64 sm, .slice q m d] 27)).alloc (.cells #[.int .i64 mo.place, .int .i64 mo.lo, .int .i64 mo.hi, .bool mo.late] 59)) #[Value.int .i64 r, .int .i64 cc, .slice p n c, .int .i64 sm, .slice q m d] 27 k (by rw [hk]; rfl)
    rw [show ((w.alloc (.cells #[.int .i64 r, .int .i64 cc, .slice p n c, .int .i64 sm, .slice q m d] 27)).alloc (.cells #[.int .i64 mo.place, .int .i64 mo.lo, .int .i64 mo.hi, .bool mo.late] 59)).heap.size = w.heap.size + 1 + 1 from by simp] at h1 h2
    exact ⟨h1, h2⟩
  rw [hW] at HSV
  clear hl hcs hx hy hm
  have g0 := HS1.out.c0; have g1 := HS1.out.c1; have g2 := HS1.out.c2; have g3 := HS1.out.c3; have g4 := HS1.out.c4
  have y0 := HK.out 0 _ rfl; have y1 := HK.out 1 _ rfl; have y2 := HK.out 2 _ rfl; have y3 := HK.out 3 _ rfl
  go_enter Try.func12, Try.ntmps12
  go_upto_region 2 with fail
  go_cut [] from 28 (fun wr => ∃ q9 m9 d9, m9 = m + 1 ∧ SAt w r cc p n c l sm q m d cs wr ∧ SBox (w.heap.size + 1 + 1) r cc p n c l sm q9 m9 d9 (cs ++ [mo]) wr)
  case first =>
    have hB : Below (w.heap.size + 3) W W.drew := (Below.refl _ _).drew
    refine wp_region_held_drew (S := fun V => Below (w.heap.size + 2) W V) (by kernel_rfl) (hB.mono (by omega)) (fun hS => ?_)
    simp only [List.size_toArray, List.length_cons, List.length_nil, Nat.reduceAdd, Array.replicate_succ, Array.replicate_zero, List.push_toArray, List.nil_append, List.cons_append]
    refine wpAnyH_take (i := 1) (v := ?_) rfl (by kernel_rfl) (by kernel_rfl) (by kernel_rfl) (fun _ _ _ h => h) (Or.inl ⟨by rfl, fun V hV => ?_⟩) (by assumption) ?_
    rotate_left
    · go_simp
      try with_reducible rfl
    try simp only [Act.put, List.getElem_toArray, List.getElem_cons_zero, List.getElem_cons_succ, List.setIfInBounds_toArray, List.set_cons_zero, List.set_cons_succ]
    refine wpAnyH_take (i := 2) (v := ?_) rfl (by kernel_rfl) (by kernel_rfl) (by kernel_rfl) (fun _ _ _ h => h) (Or.inl ⟨by rfl, fun V hV => ?_⟩) (by assumption) ?_
    rotate_left
    · have g4 := (HSV.out V hV).c4; go_simp
      try with_reducible rfl
    try simp only [Act.put, List.getElem_toArray, List.getElem_cons_zero, List.getElem_cons_succ, List.setIfInBounds_toArray, List.set_cons_zero, List.set_cons_succ]
    refine wpAnyH_take (i := 4) (v := ?_) rfl (by kernel_rfl) (by kernel_rfl) (by kernel_rfl) (fun _ _ _ h => h) (Or.inl ⟨by rfl, fun V hV => ?_⟩) (by assumption) ?_
    rotate_left
    · have y0 := (hV.cell (p := ⟨w.heap.size + 1, 0, none⟩) (by show w.heap.size + 1 < w.heap.size + 2; omega)).trans (HK.out 0 _ rfl); have y1 := (hV.cell (p := ⟨w.heap.size + 1, 1, none⟩) (by show w.heap.size + 1 < w.heap.size + 2; omega)).trans (HK.out 1 _ rfl); have y2 := (hV.cell (p := ⟨w.heap.size + 1, 2, none⟩) (by show w.heap.size + 1 < w.heap.size + 2; omega)).trans (HK.out 2 _ rfl); have y3 := (hV.cell (p := ⟨w.heap.size + 1, 3, none⟩) (by show w.heap.size + 1 < w.heap.size + 2; omega)).trans (HK.out 3 _ rfl); go_simp
      try with_reducible rfl
    try simp only [Act.put, List.getElem_toArray, List.getElem_cons_zero, List.getElem_cons_succ, List.setIfInBounds_toArray, List.set_cons_zero, List.set_cons_succ]
    refine wpAnyH_ready (rs := [0, 5]) (by kernel_rfl) (by simp) ?_
    refine AllReadyH.cons (o := _) rfl (fun K hK => ?_) ?_
    · skip
      obtain ⟨V0, hV0⟩ : ∃ V, (W.drew).alloc (.cells #[] 59) = V := ⟨_, rfl⟩
      have hb : Below (W.drew).heap.size (W.drew) V0 := by rw [← hV0]; exact (Below.refl _ _).alloc (Nat.le_refl _) _
      have ho : OwnRef V0 (w.heap.size + 3) (.slice (some ⟨(W.drew).heap.size, 0, none⟩) 0 0) [] := by rw [← hV0]; exact ownRef_nil _ (by have h8 := hB.size; have h9 := HSZ.out; show w.heap.size + 3 ≤ (W.drew).heap.size; rw [← h9]; exact h8)
      have hz0 : Hid (V0.heap.size = W.heap.size + 1) := by rw [← hV0]; exact World.size_alloc _ _
      have hB := hB.trans (hb.mono (by have h8 := hB.size; have h9 := HSZ.out; show w.heap.size + 3 ≤ (W.drew).heap.size; rw [← h9]; exact h8))
      clear hb
      go_simp
      refine hK.out _ _ (hB.mono (by omega)) (fun hS => ?_)
      clear hK K
      try simp only [List.setIfInBounds_toArray, List.set_cons_zero]
      refine wpAnyH_ready (rs := [3, 5]) (by kernel_rfl) (by simp) ?_
      refine AllReadyH.cons (o := _) rfl (fun K hK => ?_) ?_
      · skip
        refine step_append_ref (by rfl) (.tmp 29) (.tmp 31) (by rfl) (w.heap.size + 3) _ [] q m d cs ho (by rfl) (by rfl) (HSV.out _ (hB.mono (by omega))).cnts (by simp) (by have := HM9.out; omega) (by have h8 := hB.size; have h9 := HSZ.out; rw [← h9]; exact h8) ?_
        intro v3 V3 ho3 hb hkk
        rw [List.nil_append] at ho3
        have hB := hB.trans hb
        clear hb hkk ho
        refine hK.out _ _ (hB.mono (by omega)) (fun hS => ?_)
        clear hK K
        try simp only [Act.put, List.getElem_toArray, List.getElem_cons_zero, List.getElem_cons_succ, List.setIfInBounds_toArray, List.set_cons_zero, List.set_cons_succ]
        refine wpAnyH_ready (rs := [5]) (by kernel_rfl) (by simp) ?_
        refine AllReadyH.cons (o := _) rfl (fun K hK => ?_) AllReadyH.nil
        obtain ⟨V5, hV5⟩ : ∃ V, (V3).alloc (.cells #[.int .i64 mo.place, .int .i64 mo.lo, .int .i64 mo.hi, .bool mo.late] 59) = V := ⟨_, rfl⟩
        have hb : Below (V3).heap.size (V3) V5 := by rw [← hV5]; exact (Below.refl _ _).alloc (Nat.le_refl _) _
        have h1 : CntsAt V5 (some ⟨(V3).heap.size, 0, none⟩) 1 [mo] := by obtain ⟨p7, c7, e7, h7⟩ := (ownRef_one (V3) mo).slice; cases e7; rw [← hV5]; exact h7
        have hz5 : Hid (V5.heap.size = V3.heap.size + 1) := by rw [← hV5]; exact World.size_alloc _ _
        have ho3 := ho3.below hb
        have hB := hB.trans (hb.mono (by have h8 := hB.size; have h9 := HSZ.out; show w.heap.size + 3 ≤ (V3).heap.size; rw [← h9]; exact h8))
        clear hb
        go_simp
        refine hK.out _ _ (hB.mono (by omega)) (fun hS => ?_)
        clear hK K
        try simp only [List.setIfInBounds_toArray, List.set_cons_zero, List.set_cons_succ]
        refine wpAnyH_ready (rs := [6]) (by kernel_rfl) (by simp) ?_
        refine AllReadyH.cons (o := _) rfl (fun K hK => ?_) AllReadyH.nil
        refine step_append_ref (by rfl) (.tmp 32) (.tmp 34) (by rfl) (w.heap.size + 3) _ cs _ 1 1 [mo] ho3 (by rfl) (by rfl) h1 (by have h7 := HM9.out; have h8 := HCQ.out.1; omega) (by omega) (by have h8 := hB.size; have h9 := HSZ.out; rw [← h9]; exact h8) ?_
        intro v6 V6 ho6 hb _
        have hB := hB.trans hb
        clear hb ho3 h1
        obtain ⟨q9, d9, rfl, hq9⟩ := ho6.slice
        obtain ⟨ln, hln⟩ : ∃ a, (cs ++ [mo]).length = a := ⟨_, rfl⟩
        have HLN := hid hln
        rw [hln] at hq9 ho6 ⊢
        clear hln
        refine hK.out _ _ (hB.mono (by omega)) (fun hS => ?_)
        clear hK K
        try simp only [Act.put, List.getElem_toArray, List.getElem_cons_zero, List.getElem_cons_succ, List.setIfInBounds_toArray, List.set_cons_zero, List.set_cons_succ]
        refine wpAnyH_take (i := 7) (v := ?_) rfl (by kernel_rfl) (by kernel_rfl) (by kernel_rfl) (fun _ _ _ h => h) (Or.inl ⟨by rfl, fun V hV => ?_⟩) (by assumption) ?_
        rotate_left
        · go_simp
          try with_reducible rfl
        try simp only [Act.put, List.getElem_toArray, List.getElem_cons_zero, List.getElem_cons_succ, List.setIfInBounds_toArray, List.set_cons_zero, List.set_cons_succ]
        refine wpAnyH_ready (rs := [8]) (by kernel_rfl) (by simp) ?_
        refine AllReadyH.cons (o := _) rfl (fun K hK => ?_) AllReadyH.nil
        have kz := fun k v h => (hB.cell (p := ⟨w.heap.size + 1 + 1, k, none⟩) (by show w.heap.size + 1 + 1 < w.heap.size + 3; omega)).trans ((HKZ.out k v h).1)
        have k0 := kz 0 _ rfl; have k1 := kz 1 _ rfl; have k2 := kz 2 _ rfl; have k3 := kz 3 _ rfl; have k4 := kz 4 _ rfl
        have f4 := (hB.frozen (p := ⟨w.heap.size + 1 + 1, 4, none⟩) (by show w.heap.size + 1 + 1 < w.heap.size + 3; omega)).trans ((HKZ.out 4 _ rfl).2)
        have hown := ho6
        go_simp
        have hfin : SBox (w.heap.size + 1 + 1) r cc p n c l sm q9 ln d9 (cs ++ [mo]) (V6.setCell ⟨w.heap.size + 1 + 1, 4, none⟩ (.slice q9 ln d9)) := by
          refine ⟨Nat.lt_of_lt_of_le (show w.heap.size + 1 + 1 < V6.heap.size by have h8 := hB.size; have h9 := HSZ.out; have h10 : W.drew.heap.size = W.heap.size := rfl; omega) (by simp [World.setCell]), ?_, ?_, ?_, ?_, ?_, ?_, ?_⟩
          · rw [World.cell?_setCell_other _ _ _ _ (by simp)]; exact k0
          · rw [World.cell?_setCell_other _ _ _ _ (by simp)]; exact k1
          · rw [World.cell?_setCell_other _ _ _ _ (by simp)]; exact k2
          · rw [World.cell?_setCell_other _ _ _ _ (by simp)]; exact k3
          · exact World.cell?_setCell_same' _ _ _ (by rw [k4]; rfl)
          · exact (HSV.out _ ((hB.mono (show w.heap.size + 2 ≤ w.heap.size + 3 by omega)).setCell (p := ⟨w.heap.size + 1 + 1, 4, none⟩) (Nat.le_refl _) _)).ints
          · refine hq9.kept (fun a ha h0 hlt => Below.heap_setCell _ _ _ _ ?_) (by simp [World.setCell])
            have h7 : w.heap.size + 3 ≤ a.block := by cases ha; exact (World.ownsRow.lt hown _ rfl).1
            show a.block ≠ w.heap.size + 1 + 1
            omega
        have hsv := HSV.out _ ((hB.mono (show w.heap.size + 2 ≤ w.heap.size + 3 by omega)).setCell (p := ⟨w.heap.size + 1 + 1, 4, none⟩) (Nat.le_refl _) (.slice q9 ln d9))
        have HFIN := hid hfin; have HSN := hid hsv
        clear hfin hsv
        refine hK.out _ _ ((hB.mono (show w.heap.size + 2 ≤ w.heap.size + 3 by omega)).setCell (p := ⟨w.heap.size + 1 + 1, 4, none⟩) (Nat.le_refl _) _) (fun hS => ?_)
        clear hK K
        try simp only [List.setIfInBounds_toArray, List.set_cons_zero, List.set_cons_succ]
        refine wpAnyH_done (by kernel_rfl) ?_ _
        clear hS
        go_wp2
        go_meet
        case rel => exact ⟨q9, _, d9, by rw [← HLN.out, List.length_append, List.length_singleton, ← HCQ.out.1], HSN.out, HFIN.out⟩
      refine AllReadyH.cons (o := _) rfl (fun K hK => ?_) AllReadyH.nil
      obtain ⟨V5, hV5⟩ : ∃ V, (V0).alloc (.cells #[.int .i64 mo.place, .int .i64 mo.lo, .int .i64 mo.hi, .bool mo.late] 59) = V := ⟨_, rfl⟩
      have hb : Below (V0).heap.size (V0) V5 := by rw [← hV5]; exact (Below.refl _ _).alloc (Nat.le_refl _) _
      have h1 : CntsAt V5 (some ⟨(V0).heap.size, 0, none⟩) 1 [mo] := by obtain ⟨p7, c7, e7, h7⟩ := (ownRef_one (V0) mo).slice; cases e7; rw [← hV5]; exact h7
      have hz5 : Hid (V5.heap.size = V0.heap.size + 1) := by rw [← hV5]; exact World.size_alloc _ _
      have ho := ho.below hb
      have hB := hB.trans (hb.mono (by have h8 := hB.size; have h9 := HSZ.out; show w.heap.size + 3 ≤ (V0).heap.size; rw [← h9]; exact h8))
      clear hb
      go_simp
      refine hK.out _ _ (hB.mono (by omega)) (fun hS => ?_)
      clear hK K
      try simp only [List.setIfInBounds_toArray, List.set_cons_zero, List.set_cons_succ]
      refine wpAnyH_ready (rs := [3]) (by kernel_rfl) (by simp) ?_
      refine AllReadyH.cons (o := _) rfl (fun K hK => ?_) AllReadyH.nil
      refine step_append_ref (by rfl) (.tmp 29) (.tmp 31) (by rfl) (w.heap.size + 3) _ [] q m d cs ho (by rfl) (by rfl) (HSV.out _ (hB.mono (by omega))).cnts (by simp) (by have := HM9.out; omega) (by have h8 := hB.size; have h9 := HSZ.out; rw [← h9]; exact h8) ?_
      intro v3 V3 ho3 hb hkk
      rw [List.nil_append] at ho3
      have h1 := h1.kept (fun a ha _ hlt => hkk _ hlt (by cases ha; intro e; have e2 : V0.heap.size = W.heap.size := (by simpa [Value.ownBlock] using e); have e3 := hz0.out; omega)) hb.size
      have hB := hB.trans hb
      clear hb hkk ho
      refine hK.out _ _ (hB.mono (by omega)) (fun hS => ?_)
      clear hK K
      try simp only [Act.put, List.getElem_toArray, List.getElem_cons_zero, List.getElem_cons_succ, List.setIfInBounds_toArray, List.set_cons_zero, List.set_cons_succ]
      refine wpAnyH_ready (rs := [6]) (by kernel_rfl) (by simp) ?_
      refine AllReadyH.cons (o := _) rfl (fun K hK => ?_) AllReadyH.nil
      refine step_append_ref (by rfl) (.tmp 32) (.tmp 34) (by rfl) (w.heap.size + 3) _ cs _ 1 1 [mo] ho3 (by rfl) (by rfl) h1 (by have h7 := HM9.out; have h8 := HCQ.out.1; omega) (by omega) (by have h8 := hB.size; have h9 := HSZ.out; rw [← h9]; exact h8) ?_
      intro v6 V6 ho6 hb _
      have hB := hB.trans hb
      clear hb ho3 h1
      obtain ⟨q9, d9, rfl, hq9⟩ := ho6.slice
      obtain ⟨ln, hln⟩ : ∃ a, (cs ++ [mo]).length = a := ⟨_, rfl⟩
      have HLN := hid hln
      rw [hln] at hq9 ho6 ⊢
      clear hln
      refine hK.out _ _ (hB.mono (by omega)) (fun hS => ?_)
      clear hK K
      try simp only [Act.put, List.getElem_toArray, List.getElem_cons_zero, List.getElem_cons_succ, List.setIfInBounds_toArray, List.set_cons_zero, List.set_cons_succ]
      refine wpAnyH_take (i := 7) (v := ?_) rfl (by kernel_rfl) (by kernel_rfl) (by kernel_rfl) (fun _ _ _ h => h) (Or.inl ⟨by rfl, fun V hV => ?_⟩) (by assumption) ?_
      rotate_left
      · go_simp
        try with_reducible rfl
      try simp only [Act.put, List.getElem_toArray, List.getElem_cons_zero, List.getElem_cons_succ, List.setIfInBounds_toArray, List.set_cons_zero, List.set_cons_succ]
      refine wpAnyH_ready (rs := [8]) (by kernel_rfl) (by simp) ?_
      refine AllReadyH.cons (o := _) rfl (fun K hK => ?_) AllReadyH.nil
      have kz := fun k v h => (hB.cell (p := ⟨w.heap.size + 1 + 1, k, none⟩) (by show w.heap.size + 1 + 1 < w.heap.size + 3; omega)).trans ((HKZ.out k v h).1)
      have k0 := kz 0 _ rfl; have k1 := kz 1 _ rfl; have k2 := kz 2 _ rfl; have k3 := kz 3 _ rfl; have k4 := kz 4 _ rfl
      have f4 := (hB.frozen (p := ⟨w.heap.size + 1 + 1, 4, none⟩) (by show w.heap.size + 1 + 1 < w.heap.size + 3; omega)).trans ((HKZ.out 4 _ rfl).2)
      have hown := ho6
      go_simp
      have hfin : SBox (w.heap.size + 1 + 1) r cc p n c l sm q9 ln d9 (cs ++ [mo]) (V6.setCell ⟨w.heap.size + 1 + 1, 4, none⟩ (.slice q9 ln d9)) := by
        refine ⟨Nat.lt_of_lt_of_le (show w.heap.size + 1 + 1 < V6.heap.size by have h8 := hB.size; have h9 := HSZ.out; have h10 : W.drew.heap.size = W.heap.size := rfl; omega) (by simp [World.setCell]), ?_, ?_, ?_, ?_, ?_, ?_, ?_⟩
        · rw [World.cell?_setCell_other _ _ _ _ (by simp)]; exact k0
        · rw [World.cell?_setCell_other _ _ _ _ (by simp)]; exact k1
        · rw [World.cell?_setCell_other _ _ _ _ (by simp)]; exact k2
        · rw [World.cell?_setCell_other _ _ _ _ (by simp)]; exact k3
        · exact World.cell?_setCell_same' _ _ _ (by rw [k4]; rfl)
        · exact (HSV.out _ ((hB.mono (show w.heap.size + 2 ≤ w.heap.size + 3 by omega)).setCell (p := ⟨w.heap.size + 1 + 1, 4, none⟩) (Nat.le_refl _) _)).ints
        · refine hq9.kept (fun a ha h0 hlt => Below.heap_setCell _ _ _ _ ?_) (by simp [World.setCell])
          have h7 : w.heap.size + 3 ≤ a.block := by cases ha; exact (World.ownsRow.lt hown _ rfl).1
          show a.block ≠ w.heap.size + 1 + 1
          omega
      have hsv := HSV.out _ ((hB.mono (show w.heap.size + 2 ≤ w.heap.size + 3 by omega)).setCell (p := ⟨w.heap.size + 1 + 1, 4, none⟩) (Nat.le_refl _) (.slice q9 ln d9))
      have HFIN := hid hfin; have HSN := hid hsv
      clear hfin hsv
      refine hK.out _ _ ((hB.mono (show w.heap.size + 2 ≤ w.heap.size + 3 by omega)).setCell (p := ⟨w.heap.size + 1 + 1, 4, none⟩) (Nat.le_refl _) _) (fun hS => ?_)
      clear hK K
      try simp only [List.setIfInBounds_toArray, List.set_cons_zero, List.set_cons_succ]
      refine wpAnyH_done (by kernel_rfl) ?_ _
      clear hS
      go_wp2
      go_meet
      case rel => exact ⟨q9, _, d9, by rw [← HLN.out, List.length_append, List.length_singleton, ← HCQ.out.1], HSN.out, HFIN.out⟩
    refine AllReadyH.cons (o := _) rfl (fun K hK => ?_) AllReadyH.nil
    obtain ⟨V5, hV5⟩ : ∃ V, (W.drew).alloc (.cells #[.int .i64 mo.place, .int .i64 mo.lo, .int .i64 mo.hi, .bool mo.late] 59) = V := ⟨_, rfl⟩
    have hb : Below (W.drew).heap.size (W.drew) V5 := by rw [← hV5]; exact (Below.refl _ _).alloc (Nat.le_refl _) _
    have h1 : CntsAt V5 (some ⟨(W.drew).heap.size, 0, none⟩) 1 [mo] := by obtain ⟨p7, c7, e7, h7⟩ := (ownRef_one (W.drew) mo).slice; cases e7; rw [← hV5]; exact h7
    have hz5 : Hid (V5.heap.size = W.heap.size + 1) := by rw [← hV5]; exact World.size_alloc _ _
    have hB := hB.trans (hb.mono (by have h8 := hB.size; have h9 := HSZ.out; show w.heap.size + 3 ≤ (W.drew).heap.size; rw [← h9]; exact h8))
    clear hb
    go_simp
    refine hK.out _ _ (hB.mono (by omega)) (fun hS => ?_)
    clear hK K
    try simp only [List.setIfInBounds_toArray, List.set_cons_zero, List.set_cons_succ]
    refine wpAnyH_ready (rs := [0]) (by kernel_rfl) (by simp) ?_
    refine AllReadyH.cons (o := _) rfl (fun K hK => ?_) AllReadyH.nil
    obtain ⟨V0, hV0⟩ : ∃ V, (V5).alloc (.cells #[] 59) = V := ⟨_, rfl⟩
    have hb : Below (V5).heap.size (V5) V0 := by rw [← hV0]; exact (Below.refl _ _).alloc (Nat.le_refl _) _
    have ho : OwnRef V0 (w.heap.size + 3) (.slice (some ⟨(V5).heap.size, 0, none⟩) 0 0) [] := by rw [← hV0]; exact ownRef_nil _ (by have h8 := hB.size; have h9 := HSZ.out; show w.heap.size + 3 ≤ (V5).heap.size; rw [← h9]; exact h8)
    have hz0 : Hid (V0.heap.size = V5.heap.size + 1) := by rw [← hV0]; exact World.size_alloc _ _
    have h1 := h1.below hb
    have hB := hB.trans (hb.mono (by have h8 := hB.size; have h9 := HSZ.out; show w.heap.size + 3 ≤ (V5).heap.size; rw [← h9]; exact h8))
    clear hb
    go_simp
    refine hK.out _ _ (hB.mono (by omega)) (fun hS => ?_)
    clear hK K
    try simp only [List.setIfInBounds_toArray, List.set_cons_zero]
    refine wpAnyH_ready (rs := [3]) (by kernel_rfl) (by simp) ?_
    refine AllReadyH.cons (o := _) rfl (fun K hK => ?_) AllReadyH.nil
    refine step_append_ref (by rfl) (.tmp 29) (.tmp 31) (by rfl) (w.heap.size + 3) _ [] q m d cs ho (by rfl) (by rfl) (HSV.out _ (hB.mono (by omega))).cnts (by simp) (by have := HM9.out; omega) (by have h8 := hB.size; have h9 := HSZ.out; rw [← h9]; exact h8) ?_
    intro v3 V3 ho3 hb hkk
    rw [List.nil_append] at ho3
    have h1 := h1.kept (fun a ha _ hlt => hkk _ hlt (by cases ha; intro e; have e2 : W.heap.size = V5.heap.size := (by simpa [Value.ownBlock] using e); have e3 := hz5.out; omega)) hb.size
    have hB := hB.trans hb
    clear hb hkk ho
    refine hK.out _ _ (hB.mono (by omega)) (fun hS => ?_)
    clear hK K
    try simp only [Act.put, List.getElem_toArray, List.getElem_cons_zero, List.getElem_cons_succ, List.setIfInBounds_toArray, List.set_cons_zero, List.set_cons_succ]
    refine wpAnyH_ready (rs := [6]) (by kernel_rfl) (by simp) ?_
    refine AllReadyH.cons (o := _) rfl (fun K hK => ?_) AllReadyH.nil
    refine step_append_ref (by rfl) (.tmp 32) (.tmp 34) (by rfl) (w.heap.size + 3) _ cs _ 1 1 [mo] ho3 (by rfl) (by rfl) h1 (by have h7 := HM9.out; have h8 := HCQ.out.1; omega) (by omega) (by have h8 := hB.size; have h9 := HSZ.out; rw [← h9]; exact h8) ?_
    intro v6 V6 ho6 hb _
    have hB := hB.trans hb
    clear hb ho3 h1
    obtain ⟨q9, d9, rfl, hq9⟩ := ho6.slice
    obtain ⟨ln, hln⟩ : ∃ a, (cs ++ [mo]).length = a := ⟨_, rfl⟩
    have HLN := hid hln
    rw [hln] at hq9 ho6 ⊢
    clear hln
    refine hK.out _ _ (hB.mono (by omega)) (fun hS => ?_)
    clear hK K
    try simp only [Act.put, List.getElem_toArray, List.getElem_cons_zero, List.getElem_cons_succ, List.setIfInBounds_toArray, List.set_cons_zero, List.set_cons_succ]
    refine wpAnyH_take (i := 7) (v := ?_) rfl (by kernel_rfl) (by kernel_rfl) (by kernel_rfl) (fun _ _ _ h => h) (Or.inl ⟨by rfl, fun V hV => ?_⟩) (by assumption) ?_
    rotate_left
    · go_simp
      try with_reducible rfl
    try simp only [Act.put, List.getElem_toArray, List.getElem_cons_zero, List.getElem_cons_succ, List.setIfInBounds_toArray, List.set_cons_zero, List.set_cons_succ]
    refine wpAnyH_ready (rs := [8]) (by kernel_rfl) (by simp) ?_
    refine AllReadyH.cons (o := _) rfl (fun K hK => ?_) AllReadyH.nil
    have kz := fun k v h => (hB.cell (p := ⟨w.heap.size + 1 + 1, k, none⟩) (by show w.heap.size + 1 + 1 < w.heap.size + 3; omega)).trans ((HKZ.out k v h).1)
    have k0 := kz 0 _ rfl; have k1 := kz 1 _ rfl; have k2 := kz 2 _ rfl; have k3 := kz 3 _ rfl; have k4 := kz 4 _ rfl
    have f4 := (hB.frozen (p := ⟨w.heap.size + 1 + 1, 4, none⟩) (by show w.heap.size + 1 + 1 < w.heap.size + 3; omega)).trans ((HKZ.out 4 _ rfl).2)
    have hown := ho6
    go_simp
    have hfin : SBox (w.heap.size + 1 + 1) r cc p n c l sm q9 ln d9 (cs ++ [mo]) (V6.setCell ⟨w.heap.size + 1 + 1, 4, none⟩ (.slice q9 ln d9)) := by
      refine ⟨Nat.lt_of_lt_of_le (show w.heap.size + 1 + 1 < V6.heap.size by have h8 := hB.size; have h9 := HSZ.out; have h10 : W.drew.heap.size = W.heap.size := rfl; omega) (by simp [World.setCell]), ?_, ?_, ?_, ?_, ?_, ?_, ?_⟩
      · rw [World.cell?_setCell_other _ _ _ _ (by simp)]; exact k0
      · rw [World.cell?_setCell_other _ _ _ _ (by simp)]; exact k1
      · rw [World.cell?_setCell_other _ _ _ _ (by simp)]; exact k2
      · rw [World.cell?_setCell_other _ _ _ _ (by simp)]; exact k3
      · exact World.cell?_setCell_same' _ _ _ (by rw [k4]; rfl)
      · exact (HSV.out _ ((hB.mono (show w.heap.size + 2 ≤ w.heap.size + 3 by omega)).setCell (p := ⟨w.heap.size + 1 + 1, 4, none⟩) (Nat.le_refl _) _)).ints
      · refine hq9.kept (fun a ha h0 hlt => Below.heap_setCell _ _ _ _ ?_) (by simp [World.setCell])
        have h7 : w.heap.size + 3 ≤ a.block := by cases ha; exact (World.ownsRow.lt hown _ rfl).1
        show a.block ≠ w.heap.size + 1 + 1
        omega
    have hsv := HSV.out _ ((hB.mono (show w.heap.size + 2 ≤ w.heap.size + 3 by omega)).setCell (p := ⟨w.heap.size + 1 + 1, 4, none⟩) (Nat.le_refl _) (.slice q9 ln d9))
    have HFIN := hid hfin; have HSN := hid hsv
    clear hfin hsv
    refine hK.out _ _ ((hB.mono (show w.heap.size + 2 ≤ w.heap.size + 3 by omega)).setCell (p := ⟨w.heap.size + 1 + 1, 4, none⟩) (Nat.le_refl _) _) (fun hS => ?_)
    clear hK K
    try simp only [List.setIfInBounds_toArray, List.set_cons_zero, List.set_cons_succ]
    refine wpAnyH_done (by kernel_rfl) ?_ _
    clear hS
    go_wp2
    go_meet
    case rel => exact ⟨q9, _, d9, by rw [← HLN.out, List.length_append, List.length_singleton, ← HCQ.out.1], HSN.out, HFIN.out⟩
  case rest =>
    obtain ⟨q9, m9, d9, hm9, hS, hZ⟩ := hcut
    have HM1 := hid hm9
    have HS2 := hid hS; have HZ2 := hid hZ
    clear hm9 hS hZ y0 y1 y2 y3 g0 g1 g2 g3 g4
    have g0 := HS2.out.c0; have g1 := HS2.out.c1; have g2 := HS2.out.c2; have g3 := HS2.out.c3; have g4 := HS2.out.c4
    have z0 := HZ2.out.c0; have z1 := HZ2.out.c1; have z2 := HZ2.out.c2; have z3 := HZ2.out.c3; have z4 := HZ2.out.c4
    obtain ⟨cb, hcb⟩ : ∃ a, (thinB n m && decide (faultL r cc l sm cs = 0)) = a := ⟨_, rfl⟩
    have HCB := hid hcb
    go_wp2_with fail
    refine (ready_any r cc p n c l sm q m d cs _ HS2.out.ints HS2.out.cnts).mono ?_
    rintro e w3 ⟨rfl, hb⟩
    have HS3 := hid (HS2.out.step hb)
    have HZ3 := hid (HZ2.out.below hb)
    rw [hcb]
    clear hcb
    clear hb z0 z1 z2 z3 z4 g0 g1 g2 g3 g4
    have g0 := HS3.out.c0; have g1 := HS3.out.c1; have g2 := HS3.out.c2; have g3 := HS3.out.c3; have g4 := HS3.out.c4
    have z0 := HZ3.out.c0; have z1 := HZ3.out.c1; have z2 := HZ3.out.c2; have z3 := HZ3.out.c3; have z4 := HZ3.out.c4
    cases cb with
    | true =>
      obtain ⟨cb2, hcb2⟩ : ∃ a, (thinB n m9 && decide (faultL r cc l sm (cs ++ [mo]) = 0)) = a := ⟨_, rfl⟩
      have HCB2 := hid hcb2
      go_wp2_with fail
      refine (ready_any r cc p n c l sm q9 m9 d9 (cs ++ [mo]) _ HZ3.out.ints HZ3.out.cnts).mono ?_
      rintro e w4 ⟨rfl, hb⟩
      have HS4 := hid (HS3.out.step hb)
      have HZ4 := hid (HZ3.out.below hb)
      rw [hcb2]
      clear hcb2
      clear hb z0 z1 z2 z3 z4 g0 g1 g2 g3 g4
      have g0 := HS4.out.c0; have g1 := HS4.out.c1; have g2 := HS4.out.c2; have g3 := HS4.out.c3; have g4 := HS4.out.c4
      have z0 := HZ4.out.c0; have z1 := HZ4.out.c1; have z2 := HZ4.out.c2; have z3 := HZ4.out.c3; have z4 := HZ4.out.c4
      cases cb2 with
      | true =>
        have hnm : n ≤ 12 ∧ m ≤ 9 ∧ m9 ≤ 9 := by have h := HCB.out; have h2 := HCB2.out; simp only [Bool.and_eq_true, thinB, decide_eq_true_eq] at h h2; exact ⟨h.1.1, h.1.2, h2.1.2⟩
        have HN := hid hnm
        clear hnm
        have hf : faultL r cc l sm cs = 0 := by have h := HCB.out; simp only [Bool.and_eq_true, decide_eq_true_eq] at h; exact h.2
        have HF := hid hf
        have hf2 : faultL r cc l sm (cs ++ [mo]) = 0 := by have h := HCB2.out; simp only [Bool.and_eq_true, decide_eq_true_eq] at h; exact h.2
        have HF2 := hid hf2
        clear hf hf2
        go_wp2_with fail
        refine (surveyX_any r cc p n c l sm q m d cs _ HS4.out.ints HS4.out.cnts (by have := HN.out; omega) (by have := HN.out; omega)).mono ?_
        rintro e w5 ⟨p1, n1, c1, q1, m1, d1, rfl, hi3, hc3, hb⟩
        have HS5 := hid (HS4.out.step hb)
        have HZ5 := hid (HZ4.out.below hb)
        have HI5 := hid hi3; have HC5 := hid hc3; clear hi3 hc3
        have HL1 : Hid (n1 ≤ 12 ∧ m1 ≤ 9) := ⟨by have := HI5.out.1; have := HS5.out.ints.1; have := HN.out; omega, by have := HC5.out.1; have := HS5.out.cnts.1; have := HN.out; omega⟩
        clear hb z0 z1 z2 z3 z4 g0 g1 g2 g3 g4
        have g0 := HS5.out.c0; have g1 := HS5.out.c1; have g2 := HS5.out.c2; have g3 := HS5.out.c3; have g4 := HS5.out.c4
        have z0 := HZ5.out.c0; have z1 := HZ5.out.c1; have z2 := HZ5.out.c2; have z3 := HZ5.out.c3; have z4 := HZ5.out.c4
        go_wp2_with fail
        refine (Leave_any r cc p1 n1 c1 l sm q1 m1 d1 cs _ HI5.out HC5.out (by have := HL1.out; omega) (by have := HL1.out; omega)).mono ?_
        rintro e w6 ⟨px, nx, cx, X, rfl, hx, hX, hb⟩
        have HS6 := hid (HS5.out.step hb)
        have HZ6 := hid (HZ5.out.below hb)
        have hX2 : First (leftB cc l sm cs) cs.length X := by have h9 : ite _ _ _ := hX; rw [if_pos HF.out] at h9; exact h9
        have HXP := hid hX2
        have HXL : Hid (nx = X.length) := hx.1
        clear hx hX hX2
        rw [HF.out]
        clear hb z0 z1 z2 z3 z4 g0 g1 g2 g3 g4
        have g0 := HS6.out.c0; have g1 := HS6.out.c1; have g2 := HS6.out.c2; have g3 := HS6.out.c3; have g4 := HS6.out.c4
        have z0 := HZ6.out.c0; have z1 := HZ6.out.c1; have z2 := HZ6.out.c2; have z3 := HZ6.out.c3; have z4 := HZ6.out.c4
        go_wp2_with fail
        refine (surveyX_any r cc p n c l sm q9 m9 d9 (cs ++ [mo]) _ HZ6.out.ints HZ6.out.cnts (by have := HN.out; omega) (by have := HN.out; omega)).mono ?_
        rintro e w7 ⟨p2, n2, c2, q2, m2, d2, rfl, hi3, hc3, hb⟩
        have HS7 := hid (HS6.out.step hb)
        have HZ7 := hid (HZ6.out.below hb)
        have HI7 := hid hi3; have HC7 := hid hc3; clear hi3 hc3
        have HL2 : Hid (n2 ≤ 12 ∧ m2 ≤ 9) := ⟨by have := HI7.out.1; have := HZ7.out.ints.1; have := HN.out; omega, by have := HC7.out.1; have := HZ7.out.cnts.1; have := HN.out; omega⟩
        clear hb z0 z1 z2 z3 z4 g0 g1 g2 g3 g4
        have g0 := HS7.out.c0; have g1 := HS7.out.c1; have g2 := HS7.out.c2; have g3 := HS7.out.c3; have g4 := HS7.out.c4
        have z0 := HZ7.out.c0; have z1 := HZ7.out.c1; have z2 := HZ7.out.c2; have z3 := HZ7.out.c3; have z4 := HZ7.out.c4
        go_wp2_with fail
        refine (Leave_any r cc p2 n2 c2 l sm q2 m2 d2 (cs ++ [mo]) _ HI7.out HC7.out (by have := HL2.out; omega) (by have := HL2.out; omega)).mono ?_
        rintro e w8 ⟨py, ny, cy, Y, rfl, hx, hX, hb⟩
        have HS8 := hid (HS7.out.step hb)
        have HZ8 := hid (HZ7.out.below hb)
        have hX2 : First (leftB cc l sm (cs ++ [mo])) (cs ++ [mo]).length Y := by have h9 : ite _ _ _ := hX; rw [if_pos HF2.out] at h9; exact h9
        have HYP := hid hX2
        have HYL : Hid (ny = Y.length) := hx.1
        clear hx hX hX2
        rw [HF2.out]
        clear hb z0 z1 z2 z3 z4 g0 g1 g2 g3 g4
        have g0 := HS8.out.c0; have g1 := HS8.out.c1; have g2 := HS8.out.c2; have g3 := HS8.out.c3; have g4 := HS8.out.c4
        have z0 := HZ8.out.c0; have z1 := HZ8.out.c1; have z2 := HZ8.out.c2; have z3 := HZ8.out.c3; have z4 := HZ8.out.c4
        have hlen := more_left HXP.out HYP.out
        rw [← HXL.out, ← HYL.out] at hlen
        have hc1 : ¬ (ny : Int) < nx := by omega
        have hc1b : ¬ ny < nx := by omega
        have hc2 : ¬ (nx : Int) + 1 < ny := by omega
        have hX9 : nx ≤ 9 := by
          rw [HXL.out]
          by_cases e : X = []
          · rw [e]; simp
          · have h1 := incr_room _ _ 0 HXP.out.1 e; have h2 := HS8.out.cnts.1; have h3 := HN.out; omega
        have e1 : IntKind.i64.wrap ((nx : Int) + 1) = (nx : Int) + 1 := IntWalk.i64_in _ (by omega)
        obtain ⟨cb3, hcb3⟩ : ∃ a, ((thinB n m9 && decide (faultL r cc l sm (cs ++ [mo]) = 0)) && canB cc l sm (cs ++ [mo]) 0) = a := ⟨_, rfl⟩
        have HCB3 := hid hcb3
        go_wp2_with fail
        refine (canX_any r cc p n c l sm q9 m9 d9 (cs ++ [mo]) _ HZ8.out.ints HZ8.out.cnts).mono ?_
        rintro e w9 ⟨rfl, hb⟩
        have HS9 := hid (HS8.out.step hb)
        have HZ9 := hid (HZ8.out.below hb)
        rw [hcb3]
        clear hcb3
        clear hb z0 z1 z2 z3 z4 g0 g1 g2 g3 g4
        have g0 := HS9.out.c0; have g1 := HS9.out.c1; have g2 := HS9.out.c2; have g3 := HS9.out.c3; have g4 := HS9.out.c4
        have z0 := HZ9.out.c0; have z1 := HZ9.out.c1; have z2 := HZ9.out.c2; have z3 := HZ9.out.c3; have z4 := HZ9.out.c4
        clear hlen hc1 hc1b hc2 hX9 e1
        cases cb3 with
        | true =>
          have hG2 : genP (okP (cs ++ [mo]) [] cc sm) l 0 [] ≠ [] := by have h := HCB3.out; simp only [Bool.and_eq_true] at h; exact can_gen HF2.out h.2
          have hG : genP (okP cs [] cc sm) l 0 [] ≠ [] := by
            intro e
            cases h : genP (okP (cs ++ [mo]) [] cc sm) l 0 [] with
            | nil => exact hG2 h
            | cons a b => have := more_sub (x := a) (by rw [h]; simp); rw [e] at this; cases this
          have HG := hid hG; have HG2 := hid hG2
          clear hG hG2
          have HNL : Hid (n = l.length) := HS9.out.ints.1
          have HFF := hid (field_facts (fault0 HF.out).2.1)
          have hn1 : 1 ≤ n ∧ n ≤ 9 := by have := HFF.out.2.2.2.2.2.1; have := HFF.out.2.2.2.2.2.2.1; have := HNL.out; omega
          have HN1 := hid hn1
          obtain ⟨pi, hpi⟩ : ∃ a : Int, y % (n : Int) = a := ⟨_, rfl⟩
          have hpb : 0 ≤ pi ∧ pi < n := by rw [← hpi]; exact ⟨Int.emod_nonneg _ (by omega), Int.emod_lt_of_pos _ (by omega)⟩
          obtain ⟨pl, rfl⟩ : ∃ a : Nat, pi = (a : Int) := ⟨pi.toNat, by omega⟩
          have HPN : Hid (pl < n) := by show pl < n; omega
          have HPI := hid hpi
          obtain ⟨n0, hn0⟩ : ∃ a, x % 101 = a := ⟨_, rfl⟩
          have HNB : Hid (0 ≤ n0 ∧ n0 ≤ 100) := by show _ ∧ _; omega
          have HN0 := hid hn0
          clear hn1 hpi hpb hn0
          go_wp2_with fail
          refine wp_region_held_drew (S := fun V => SAt w r cc p n c l sm q m d cs V ∧ SBox (w.heap.size + 1 + 1) r cc p n c l sm q9 m9 d9 (cs ++ [mo]) V) (by kernel_rfl) (⟨HS9.out.drewN 1, HZ9.out.below (Below.refl _ _).drew⟩) (fun hS => ?_)
          simp only [List.size_toArray, List.length_cons, List.length_nil, Nat.reduceAdd, Array.replicate_succ, Array.replicate_zero, List.push_toArray, List.nil_append, List.cons_append]
          refine wpAnyH_take (i := 0) (v := ?_) rfl (by kernel_rfl) (by kernel_rfl) (by kernel_rfl) (fun _ _ _ h => h) (Or.inl ⟨by rfl, fun V hV => ?_⟩) (by assumption) ?_
          rotate_left
          · go_simp
            try with_reducible rfl
          try simp only [Act.put, List.getElem_toArray, List.getElem_cons_zero, List.setIfInBounds_toArray, List.set_cons_zero, List.set_cons_succ]
          refine wpAnyH_take (i := 1) (v := ?_) rfl (by kernel_rfl) (by kernel_rfl) (by kernel_rfl) (fun _ _ _ h => h) (Or.inl ⟨by rfl, fun V hV => ?_⟩) (by assumption) ?_
          rotate_left
          · have e1 : IntKind.i64.wrap x = x := IntWalk.i64_in _ (by have := HX.out; omega); go_simp
            try with_reducible rfl
          try simp only [Act.put, List.getElem_toArray, List.getElem_cons_zero, List.getElem_cons_succ, List.setIfInBounds_toArray, List.set_cons_zero, List.set_cons_succ]
          refine wpAnyH_take (i := 2) (v := ?_) rfl (by kernel_rfl) (by kernel_rfl) (by kernel_rfl) (fun _ _ _ h => h) (Or.inl ⟨by rfl, fun V hV => ?_⟩) (by assumption) ?_
          rotate_left
          · have e4 : x.tmod 101 = n0 := (by rw [Int.tmod_eq_emod_of_nonneg HX.out.1]; exact HN0.out); have e5 : IntKind.i64.wrap n0 = n0 := IntWalk.i64_in _ (by have := HNB.out; omega); go_simp
            try with_reducible rfl
          try simp only [Act.put, List.getElem_toArray, List.getElem_cons_zero, List.getElem_cons_succ, List.setIfInBounds_toArray, List.set_cons_zero, List.set_cons_succ]
          refine wpAnyH_take (i := 5) (v := ?_) rfl (by kernel_rfl) (by kernel_rfl) (by kernel_rfl) (fun _ _ _ h => h) (Or.inl ⟨by rfl, fun V hV => ?_⟩) (by assumption) ?_
          rotate_left
          · go_simp
            try with_reducible rfl
          try simp only [Act.put, List.getElem_toArray, List.getElem_cons_zero, List.getElem_cons_succ, List.setIfInBounds_toArray, List.set_cons_zero, List.set_cons_succ]
          refine wpAnyH_take (i := 6) (v := ?_) rfl (by kernel_rfl) (by kernel_rfl) (by kernel_rfl) (fun _ _ _ h => h) (Or.inl ⟨by rfl, fun V hV => ?_⟩) (by assumption) ?_
          rotate_left
          · go_simp
            try with_reducible rfl
          try simp only [Act.put, List.getElem_toArray, List.getElem_cons_zero, List.getElem_cons_succ, List.setIfInBounds_toArray, List.set_cons_zero, List.set_cons_succ]
          refine wpAnyH_take (i := 7) (v := ?_) rfl (by kernel_rfl) (by kernel_rfl) (by kernel_rfl) (fun _ _ _ h => h) (Or.inl ⟨by rfl, fun V hV => ?_⟩) (by assumption) ?_
          rotate_left
          · have g2 := hV.1.c2; go_simp
            try with_reducible rfl
          try simp only [Act.put, List.getElem_toArray, List.getElem_cons_zero, List.getElem_cons_succ, List.setIfInBounds_toArray, List.set_cons_zero, List.set_cons_succ]
          refine wpAnyH_take (i := 8) (v := ?_) rfl (by kernel_rfl) (by kernel_rfl) (by kernel_rfl) (fun _ _ _ h => h) (Or.inl ⟨by rfl, fun V hV => ?_⟩) (by assumption) ?_
          rotate_left
          · go_simp
            try with_reducible rfl
          try simp only [Act.put, List.getElem_toArray, List.getElem_cons_zero, List.getElem_cons_succ, List.setIfInBounds_toArray, List.set_cons_zero, List.set_cons_succ]
          refine wpAnyH_take (i := 10) (v := ?_) rfl (by kernel_rfl) (by kernel_rfl) (by kernel_rfl) (fun _ _ _ h => h) (Or.inl ⟨by rfl, fun V hV => ?_⟩) (by assumption) ?_
          rotate_left
          · go_simp
            try with_reducible rfl
          try simp only [Act.put, List.getElem_toArray, List.getElem_cons_zero, List.getElem_cons_succ, List.setIfInBounds_toArray, List.set_cons_zero, List.set_cons_succ]
          refine wpAnyH_take (i := 3) (v := ?_) rfl (by kernel_rfl) (by kernel_rfl) (by kernel_rfl) (fun _ _ _ h => h) (Or.inl ⟨by rfl, fun V hV => ?_⟩) (by assumption) ?_
          rotate_left
          · go_simp
            try with_reducible rfl
          try simp only [Act.put, List.getElem_toArray, List.getElem_cons_zero, List.getElem_cons_succ, List.setIfInBounds_toArray, List.set_cons_zero, List.set_cons_succ]
          refine wpAnyH_take (i := 4) (v := ?_) rfl (by kernel_rfl) (by kernel_rfl) (by kernel_rfl) (fun _ _ _ h => h) (Or.inl ⟨by rfl, fun V hV => ?_⟩) (by assumption) ?_
          rotate_left
          · have e1 : IntKind.i64.wrap y = y := IntWalk.i64_in _ (by have := HY.out; omega); go_simp
            try with_reducible rfl
          try simp only [Act.put, List.getElem_toArray, List.getElem_cons_zero, List.getElem_cons_succ, List.setIfInBounds_toArray, List.set_cons_zero, List.set_cons_succ]
          refine wpAnyH_take (i := 9) (v := ?_) rfl (by kernel_rfl) (by kernel_rfl) (by kernel_rfl) (fun _ _ _ h => h) (Or.inl ⟨by rfl, fun V hV => ?_⟩) (by assumption) ?_
          rotate_left
          · have e2b : ¬ n = 0 := (by have := HN1.out; omega); have e2 : ¬ (n : Int) = 0 := (by have := HN1.out; omega); have e3 : y.tmod (n : Int) = (pl : Int) := (by rw [Int.tmod_eq_emod_of_nonneg HY.out.1]; exact HPI.out); have e4 : IntKind.i64.wrap (pl : Int) = (pl : Int) := IntWalk.i64_in _ (by have := HPN.out; have := HN1.out; omega); go_simp
            try with_reducible rfl
          try simp only [Act.put, List.getElem_toArray, List.getElem_cons_zero, List.getElem_cons_succ, List.setIfInBounds_toArray, List.set_cons_zero, List.set_cons_succ]
          refine wpAnyH_take (i := 11) (v := ?_) rfl (by kernel_rfl) (by kernel_rfl) (by kernel_rfl) (fun _ _ _ h => h) (Or.inl ⟨by rfl, fun V hV => ?_⟩) (by assumption) ?_
          rotate_left
          · go_simp
            try with_reducible rfl
          try simp only [Act.put, List.getElem_toArray, List.getElem_cons_zero, List.getElem_cons_succ, List.setIfInBounds_toArray, List.set_cons_zero, List.set_cons_succ]
          refine wpAnyH_done (by kernel_rfl) ?_ _
          have HS10 := hid hS.1; have HZ10 := hid hS.2
          clear g0 g1 g2 g3 g4 z0 z1 z2 z3 z4
          have g0 := HS10.out.c0; have g1 := HS10.out.c1; have g2 := HS10.out.c2; have g3 := HS10.out.c3; have g4 := HS10.out.c4
          have z0 := HZ10.out.c0; have z1 := HZ10.out.c1; have z2 := HZ10.out.c2; have z3 := HZ10.out.c3; have z4 := HZ10.out.c4
          obtain ⟨alo, ahi, hA1, hA2⟩ := bnd_span (F := shareL l) HF.out HG.out
          obtain ⟨blo, bhi, hB1, hB2⟩ := bnd_span (F := shareL l) HF2.out HG2.out
          obtain ⟨clo, chi, hC1, hC2⟩ := hits_span (k := pl) HF.out HG.out (by have := HPN.out; have := HNL.out; omega)
          obtain ⟨dlo, dhi, hD1, hD2⟩ := hits_span (k := pl) HF2.out HG2.out (by have := HPN.out; have := HNL.out; omega)
          have hAB := Span.sub (fun x hx => more_sub hx) hB2 hA2
          have hCD := Span.sub (fun x hx => more_sub hx) hD2 hC2
          have HA1 := hid hA1; have HB1 := hid hB1; have HC1 := hid hC1; have HD1 := hid hD1; have HAB := hid hAB; have HCD := hid hCD
          clear hA1 hA2 hB1 hB2 hC1 hC2 hD1 hD2 hAB hCD
          have hia : inB n0 0 100 = true := by have := HNB.out; simp [inB]; omega
          have HIA := hid hia
          clear hia
          go_wp2_with fail
          refine (surveyX_any r cc p n c l sm q m d cs _ HS10.out.ints HS10.out.cnts (by have := HN.out; omega) (by have := HN.out; omega)).mono ?_
          rintro e w11 ⟨p3, n3, c3, q3, m3, d3, rfl, hi3, hc3, hb⟩
          have HS11 := hid (HS10.out.step hb)
          have HZ11 := hid (HZ10.out.below hb)
          have HI11 := hid hi3; have HC11 := hid hc3; clear hi3 hc3
          have HL3 : Hid (n3 ≤ 12 ∧ m3 ≤ 9) := ⟨by have := HI11.out.1; have := HS11.out.ints.1; have := HN.out; omega, by have := HC11.out.1; have := HS11.out.cnts.1; have := HN.out; omega⟩
          clear hb z0 z1 z2 z3 z4 g0 g1 g2 g3 g4
          have g0 := HS11.out.c0; have g1 := HS11.out.c1; have g2 := HS11.out.c2; have g3 := HS11.out.c3; have g4 := HS11.out.c4
          have z0 := HZ11.out.c0; have z1 := HZ11.out.c1; have z2 := HZ11.out.c2; have z3 := HZ11.out.c3; have z4 := HZ11.out.c4
          go_wp2_with fail
          refine (Bounds_any r cc p3 n3 c3 l sm q3 m3 d3 cs _ HI11.out HC11.out (by have := HL3.out; omega) (by have := HL3.out; omega)).mono ?_
          rintro e w12 ⟨rfl, hb⟩
          have HS12 := hid (HS11.out.step hb)
          have HZ12 := hid (HZ11.out.below hb)
          rw [HA1.out]
          clear hb z0 z1 z2 z3 z4 g0 g1 g2 g3 g4
          have g0 := HS12.out.c0; have g1 := HS12.out.c1; have g2 := HS12.out.c2; have g3 := HS12.out.c3; have g4 := HS12.out.c4
          have z0 := HZ12.out.c0; have z1 := HZ12.out.c1; have z2 := HZ12.out.c2; have z3 := HZ12.out.c3; have z4 := HZ12.out.c4
          obtain ⟨w13, hw⟩ : ∃ w13, w12.alloc (.cells #[.int .i64 alo, .int .i64 ahi] 62) = w13 := ⟨_, rfl⟩
          have hb : Below w12.heap.size w12 w13 := by rw [← hw]; exact (Below.refl _ _).alloc (Nat.le_refl _) _
          have HS13 := hid (HS12.out.step hb)
          have HZ13 := hid (HZ12.out.below hb)
          have HTA13 : Hid (TwoAt w13 w12.heap.size alo ahi) := by rw [← hw]; exact ⟨cell_box w12 _ 62 0 _ rfl, cell_box w12 _ 62 1 _ rfl⟩
          clear hb g0 g1 g2 g3 g4 z0 z1 z2 z3 z4
          have g0 := HS13.out.c0; have g1 := HS13.out.c1; have g2 := HS13.out.c2; have g3 := HS13.out.c3; have g4 := HS13.out.c4
          have z0 := HZ13.out.c0; have z1 := HZ13.out.c1; have z2 := HZ13.out.c2; have z3 := HZ13.out.c3; have z4 := HZ13.out.c4
          go_wp2_with fail
          refine (surveyX_any r cc p n c l sm q9 m9 d9 (cs ++ [mo]) _ HZ13.out.ints HZ13.out.cnts (by have := HN.out; omega) (by have := HN.out; omega)).mono ?_
          rintro e w14 ⟨p4, n4, c4, q4, m4, d4, rfl, hi3, hc3, hb⟩
          have HS14 := hid (HS13.out.step hb)
          have HZ14 := hid (HZ13.out.below hb)
          have HTA14 := hid (HTA13.out.below hb)
          have HI14 := hid hi3; have HC14 := hid hc3; clear hi3 hc3
          have HL4 : Hid (n4 ≤ 12 ∧ m4 ≤ 9) := ⟨by have := HI14.out.1; have := HZ14.out.ints.1; have := HN.out; omega, by have := HC14.out.1; have := HZ14.out.cnts.1; have := HN.out; omega⟩
          clear hb z0 z1 z2 z3 z4 g0 g1 g2 g3 g4
          have g0 := HS14.out.c0; have g1 := HS14.out.c1; have g2 := HS14.out.c2; have g3 := HS14.out.c3; have g4 := HS14.out.c4
          have z0 := HZ14.out.c0; have z1 := HZ14.out.c1; have z2 := HZ14.out.c2; have z3 := HZ14.out.c3; have z4 := HZ14.out.c4
          go_wp2_with fail
          refine (Bounds_any r cc p4 n4 c4 l sm q4 m4 d4 (cs ++ [mo]) _ HI14.out HC14.out (by have := HL4.out; omega) (by have := HL4.out; omega)).mono ?_
          rintro e w15 ⟨rfl, hb⟩
          have HS15 := hid (HS14.out.step hb)
          have HZ15 := hid (HZ14.out.below hb)
          have HTA15 := hid (HTA14.out.below hb)
          rw [HB1.out]
          clear hb z0 z1 z2 z3 z4 g0 g1 g2 g3 g4
          have g0 := HS15.out.c0; have g1 := HS15.out.c1; have g2 := HS15.out.c2; have g3 := HS15.out.c3; have g4 := HS15.out.c4
          have z0 := HZ15.out.c0; have z1 := HZ15.out.c1; have z2 := HZ15.out.c2; have z3 := HZ15.out.c3; have z4 := HZ15.out.c4
          obtain ⟨w16, hw⟩ : ∃ w16, w15.alloc (.cells #[.int .i64 blo, .int .i64 bhi] 62) = w16 := ⟨_, rfl⟩
          have hb : Below w15.heap.size w15 w16 := by rw [← hw]; exact (Below.refl _ _).alloc (Nat.le_refl _) _
          have HS16 := hid (HS15.out.step hb)
          have HZ16 := hid (HZ15.out.below hb)
          have HTA16 := hid (HTA15.out.below hb)
          have HTB16 : Hid (TwoAt w16 w15.heap.size blo bhi) := by rw [← hw]; exact ⟨cell_box w15 _ 62 0 _ rfl, cell_box w15 _ 62 1 _ rfl⟩
          clear hb g0 g1 g2 g3 g4 z0 z1 z2 z3 z4
          have g0 := HS16.out.c0; have g1 := HS16.out.c1; have g2 := HS16.out.c2; have g3 := HS16.out.c3; have g4 := HS16.out.c4
          have z0 := HZ16.out.c0; have z1 := HZ16.out.c1; have z2 := HZ16.out.c2; have z3 := HZ16.out.c3; have z4 := HZ16.out.c4
          go_wp2_with fail
          refine (surveyX_any r cc p n c l sm q m d cs _ HS16.out.ints HS16.out.cnts (by have := HN.out; omega) (by have := HN.out; omega)).mono ?_
          rintro e w17 ⟨p5, n5, c5, q5, m5, d5, rfl, hi3, hc3, hb⟩
          have HS17 := hid (HS16.out.step hb)
          have HZ17 := hid (HZ16.out.below hb)
          have HTA17 := hid (HTA16.out.below hb)
          have HTB17 := hid (HTB16.out.below hb)
          have HI17 := hid hi3; have HC17 := hid hc3; clear hi3 hc3
          have HL5 : Hid (n5 ≤ 12 ∧ m5 ≤ 9) := ⟨by have := HI17.out.1; have := HS17.out.ints.1; have := HN.out; omega, by have := HC17.out.1; have := HS17.out.cnts.1; have := HN.out; omega⟩
          clear hb z0 z1 z2 z3 z4 g0 g1 g2 g3 g4
          have g0 := HS17.out.c0; have g1 := HS17.out.c1; have g2 := HS17.out.c2; have g3 := HS17.out.c3; have g4 := HS17.out.c4
          have z0 := HZ17.out.c0; have z1 := HZ17.out.c1; have z2 := HZ17.out.c2; have z3 := HZ17.out.c3; have z4 := HZ17.out.c4
          go_wp2_with fail
          refine (Hits_any r cc p5 n5 c5 l sm q5 m5 d5 cs (pl : Int) _ HI17.out HC17.out (by have := HL5.out; omega) (by have := HL5.out; omega)).mono ?_
          rintro e w18 ⟨rfl, hb⟩
          have HS18 := hid (HS17.out.step hb)
          have HZ18 := hid (HZ17.out.below hb)
          have HTA18 := hid (HTA17.out.below hb)
          have HTB18 := hid (HTB17.out.below hb)
          rw [HC1.out]
          clear hb z0 z1 z2 z3 z4 g0 g1 g2 g3 g4
          have g0 := HS18.out.c0; have g1 := HS18.out.c1; have g2 := HS18.out.c2; have g3 := HS18.out.c3; have g4 := HS18.out.c4
          have z0 := HZ18.out.c0; have z1 := HZ18.out.c1; have z2 := HZ18.out.c2; have z3 := HZ18.out.c3; have z4 := HZ18.out.c4
          obtain ⟨w19, hw⟩ : ∃ w19, w18.alloc (.cells #[.int .i64 clo, .int .i64 chi] 62) = w19 := ⟨_, rfl⟩
          have hb : Below w18.heap.size w18 w19 := by rw [← hw]; exact (Below.refl _ _).alloc (Nat.le_refl _) _
          have HS19 := hid (HS18.out.step hb)
          have HZ19 := hid (HZ18.out.below hb)
          have HTA19 := hid (HTA18.out.below hb)
          have HTB19 := hid (HTB18.out.below hb)
          have HTC19 : Hid (TwoAt w19 w18.heap.size clo chi) := by rw [← hw]; exact ⟨cell_box w18 _ 62 0 _ rfl, cell_box w18 _ 62 1 _ rfl⟩
          clear hb g0 g1 g2 g3 g4 z0 z1 z2 z3 z4
          have g0 := HS19.out.c0; have g1 := HS19.out.c1; have g2 := HS19.out.c2; have g3 := HS19.out.c3; have g4 := HS19.out.c4
          have z0 := HZ19.out.c0; have z1 := HZ19.out.c1; have z2 := HZ19.out.c2; have z3 := HZ19.out.c3; have z4 := HZ19.out.c4
          go_wp2_with fail
          refine (surveyX_any r cc p n c l sm q9 m9 d9 (cs ++ [mo]) _ HZ19.out.ints HZ19.out.cnts (by have := HN.out; omega) (by have := HN.out; omega)).mono ?_
          rintro e w20 ⟨p6, n6, c6, q6, m6, d6, rfl, hi3, hc3, hb⟩
          have HS20 := hid (HS19.out.step hb)
          have HZ20 := hid (HZ19.out.below hb)
          have HTA20 := hid (HTA19.out.below hb)
          have HTB20 := hid (HTB19.out.below hb)
          have HTC20 := hid (HTC19.out.below hb)
          have HI20 := hid hi3; have HC20 := hid hc3; clear hi3 hc3
          have HL6 : Hid (n6 ≤ 12 ∧ m6 ≤ 9) := ⟨by have := HI20.out.1; have := HZ20.out.ints.1; have := HN.out; omega, by have := HC20.out.1; have := HZ20.out.cnts.1; have := HN.out; omega⟩
          clear hb z0 z1 z2 z3 z4 g0 g1 g2 g3 g4
          have g0 := HS20.out.c0; have g1 := HS20.out.c1; have g2 := HS20.out.c2; have g3 := HS20.out.c3; have g4 := HS20.out.c4
          have z0 := HZ20.out.c0; have z1 := HZ20.out.c1; have z2 := HZ20.out.c2; have z3 := HZ20.out.c3; have z4 := HZ20.out.c4
          go_wp2_with fail
          refine (Hits_any r cc p6 n6 c6 l sm q6 m6 d6 (cs ++ [mo]) (pl : Int) _ HI20.out HC20.out (by have := HL6.out; omega) (by have := HL6.out; omega)).mono ?_
          rintro e w21 ⟨rfl, hb⟩
          have HS21 := hid (HS20.out.step hb)
          have HZ21 := hid (HZ20.out.below hb)
          have HTA21 := hid (HTA20.out.below hb)
          have HTB21 := hid (HTB20.out.below hb)
          have HTC21 := hid (HTC20.out.below hb)
          rw [HD1.out]
          clear hb z0 z1 z2 z3 z4 g0 g1 g2 g3 g4
          have g0 := HS21.out.c0; have g1 := HS21.out.c1; have g2 := HS21.out.c2; have g3 := HS21.out.c3; have g4 := HS21.out.c4
          have z0 := HZ21.out.c0; have z1 := HZ21.out.c1; have z2 := HZ21.out.c2; have z3 := HZ21.out.c3; have z4 := HZ21.out.c4
          obtain ⟨w22, hw⟩ : ∃ w22, w21.alloc (.cells #[.int .i64 dlo, .int .i64 dhi] 62) = w22 := ⟨_, rfl⟩
          have hb : Below w21.heap.size w21 w22 := by rw [← hw]; exact (Below.refl _ _).alloc (Nat.le_refl _) _
          have HS22 := hid (HS21.out.step hb)
          have HZ22 := hid (HZ21.out.below hb)
          have HTA22 := hid (HTA21.out.below hb)
          have HTB22 := hid (HTB21.out.below hb)
          have HTC22 := hid (HTC21.out.below hb)
          have HTD22 : Hid (TwoAt w22 w21.heap.size dlo dhi) := by rw [← hw]; exact ⟨cell_box w21 _ 62 0 _ rfl, cell_box w21 _ 62 1 _ rfl⟩
          clear hb g0 g1 g2 g3 g4 z0 z1 z2 z3 z4
          have g0 := HS22.out.c0; have g1 := HS22.out.c1; have g2 := HS22.out.c2; have g3 := HS22.out.c3; have g4 := HS22.out.c4
          have z0 := HZ22.out.c0; have z1 := HZ22.out.c1; have z2 := HZ22.out.c2; have z3 := HZ22.out.c3; have z4 := HZ22.out.c4
          go_wp2_with fail
          refine (surveyX_any r cc p n c l sm q m d cs _ HS22.out.ints HS22.out.cnts (by have := HN.out; omega) (by have := HN.out; omega)).mono ?_
          rintro e w23 ⟨p7, n7, c7, q7, m7, d7, rfl, hi3, hc3, hb⟩
          have HS23 := hid (HS22.out.step hb)
          have HZ23 := hid (HZ22.out.below hb)
          have HTA23 := hid (HTA22.out.below hb)
          have HTB23 := hid (HTB22.out.below hb)
          have HTC23 := hid (HTC22.out.below hb)
          have HTD23 := hid (HTD22.out.below hb)
          have HI23 := hid hi3; have HC23 := hid hc3; clear hi3 hc3
          have HL7 : Hid (n7 ≤ 12 ∧ m7 ≤ 9) := ⟨by have := HI23.out.1; have := HS23.out.ints.1; have := HN.out; omega, by have := HC23.out.1; have := HS23.out.cnts.1; have := HN.out; omega⟩
          clear hb z0 z1 z2 z3 z4 g0 g1 g2 g3 g4
          have g0 := HS23.out.c0; have g1 := HS23.out.c1; have g2 := HS23.out.c2; have g3 := HS23.out.c3; have g4 := HS23.out.c4
          have z0 := HZ23.out.c0; have z1 := HZ23.out.c1; have z2 := HZ23.out.c2; have z3 := HZ23.out.c3; have z4 := HZ23.out.c4
          go_wp2_with fail
          refine (Fewest_any r cc p7 n7 c7 l sm q7 m7 d7 cs n0 _ HI23.out HC23.out (by have := HL7.out; omega) (by have := HL7.out; omega)).mono ?_
          rintro e w24 ⟨pU, nU, cU, U, rfl, hx, hX, hb⟩
          have HS24 := hid (HS23.out.step hb)
          have HZ24 := hid (HZ23.out.below hb)
          have HTA24 := hid (HTA23.out.below hb)
          have HTB24 := hid (HTB23.out.below hb)
          have HTC24 := hid (HTC23.out.below hb)
          have HTD24 := hid (HTD23.out.below hb)
          have hfo := few_of HF.out HIA.out HG.out hX
          rw [show (if partE r cc l sm cs n0 = 0 then (if genP (okP cs [] cc sm) l 0 [] = [] then 9 else 0) else partE r cc l sm cs n0) = 0 from hfo.2]
          have HUP := hid hfo.1
          have HUL : Hid (nU = U.length) := hx.1
          clear hx hX hfo
          clear hb z0 z1 z2 z3 z4 g0 g1 g2 g3 g4
          have g0 := HS24.out.c0; have g1 := HS24.out.c1; have g2 := HS24.out.c2; have g3 := HS24.out.c3; have g4 := HS24.out.c4
          have z0 := HZ24.out.c0; have z1 := HZ24.out.c1; have z2 := HZ24.out.c2; have z3 := HZ24.out.c3; have z4 := HZ24.out.c4
          go_wp2_with fail
          refine (surveyX_any r cc p n c l sm q9 m9 d9 (cs ++ [mo]) _ HZ24.out.ints HZ24.out.cnts (by have := HN.out; omega) (by have := HN.out; omega)).mono ?_
          rintro e w25 ⟨p8, n8, c8, q8, m8, d8, rfl, hi3, hc3, hb⟩
          have HS25 := hid (HS24.out.step hb)
          have HZ25 := hid (HZ24.out.below hb)
          have HTA25 := hid (HTA24.out.below hb)
          have HTB25 := hid (HTB24.out.below hb)
          have HTC25 := hid (HTC24.out.below hb)
          have HTD25 := hid (HTD24.out.below hb)
          have HI25 := hid hi3; have HC25 := hid hc3; clear hi3 hc3
          have HL8 : Hid (n8 ≤ 12 ∧ m8 ≤ 9) := ⟨by have := HI25.out.1; have := HZ25.out.ints.1; have := HN.out; omega, by have := HC25.out.1; have := HZ25.out.cnts.1; have := HN.out; omega⟩
          clear hb z0 z1 z2 z3 z4 g0 g1 g2 g3 g4
          have g0 := HS25.out.c0; have g1 := HS25.out.c1; have g2 := HS25.out.c2; have g3 := HS25.out.c3; have g4 := HS25.out.c4
          have z0 := HZ25.out.c0; have z1 := HZ25.out.c1; have z2 := HZ25.out.c2; have z3 := HZ25.out.c3; have z4 := HZ25.out.c4
          go_wp2_with fail
          refine (Fewest_any r cc p8 n8 c8 l sm q8 m8 d8 (cs ++ [mo]) n0 _ HI25.out HC25.out (by have := HL8.out; omega) (by have := HL8.out; omega)).mono ?_
          rintro e w26 ⟨pV, nV, cV, V, rfl, hx, hX, hb⟩
          have HS26 := hid (HS25.out.step hb)
          have HZ26 := hid (HZ25.out.below hb)
          have HTA26 := hid (HTA25.out.below hb)
          have HTB26 := hid (HTB25.out.below hb)
          have HTC26 := hid (HTC25.out.below hb)
          have HTD26 := hid (HTD25.out.below hb)
          have hfo := few_of HF2.out HIA.out HG2.out hX
          rw [show (if partE r cc l sm (cs ++ [mo]) n0 = 0 then (if genP (okP (cs ++ [mo]) [] cc sm) l 0 [] = [] then 9 else 0) else partE r cc l sm (cs ++ [mo]) n0) = 0 from hfo.2]
          have HVP := hid hfo.1
          have HVL : Hid (nV = V.length) := hx.1
          clear hx hX hfo
          clear hb z0 z1 z2 z3 z4 g0 g1 g2 g3 g4
          have g0 := HS26.out.c0; have g1 := HS26.out.c1; have g2 := HS26.out.c2; have g3 := HS26.out.c3; have g4 := HS26.out.c4
          have z0 := HZ26.out.c0; have z1 := HZ26.out.c1; have z2 := HZ26.out.c2; have z3 := HZ26.out.c3; have z4 := HZ26.out.c4
          have hfew := few_sub (fun x hx => more_sub hx) HUP.out HVP.out
          rw [← HUL.out, ← HVL.out] at hfew
          have hfewi : (nV : Int) ≤ nU := by omega
          have ⟨at0, at1⟩ := HTA26.out
          have ⟨bt0, bt1⟩ := HTB26.out
          have ⟨ct0, ct1⟩ := HTC26.out
          have ⟨dt0, dt1⟩ := HTD26.out
          have i1 : alo ≤ blo := HAB.out.1
          have i2 : bhi ≤ ahi := HAB.out.2
          have i3 : clo ≤ dlo := HCD.out.1
          have i4 : dhi ≤ chi := HCD.out.2
          go_wp2_with fail
          refine (awake_any _).mono ?_
          rintro e w99 ⟨rfl, hb⟩
          go_wp2_with fail
          go_ret
          exact ⟨rfl, HS26.out.below.trans (hb.mono HS26.out.below.size)⟩
        | false =>
          go_wp2_with fail
          refine (awake_any _).mono ?_
          rintro e w99 ⟨rfl, hb⟩
          go_wp2_with fail
          go_ret
          exact ⟨rfl, HS9.out.below.trans (hb.mono HS9.out.below.size)⟩
      | false =>
        go_wp2_with fail
        refine (awake_any _).mono ?_
        rintro e w99 ⟨rfl, hb⟩
        go_wp2_with fail
        go_ret
        exact ⟨rfl, HS4.out.below.trans (hb.mono HS4.out.below.size)⟩
    | false =>
      go_wp2_with fail
      refine (awake_any _).mono ?_
      rintro e w99 ⟨rfl, hb⟩
      go_wp2_with fail
      go_ret
      exact ⟨rfl, HS3.out.below.trans (hb.mono HS3.out.below.size)⟩
end Go.Proofs.Ytlicijnaacdceaa
