/- TreatyMore: with one more report no bounds are wider, and no fewer reports have to be left out, but at most one more. For each programme and report, of at most 1100000 reports. -/
import Derived.Test.YtaioobhblfnlaaaDA
namespace Go.Proofs.Ytaioobhblfnlaaa
open Go.RowKit


set_option maxRecDepth 40000 in
set_option maxHeartbeats 16000000 in
theorem treatyMore_any (p : Prg) (lp : Option Addr) (ln lc : Nat) (tp : Option Addr) (tn tc : Nat) (rp : Option Addr) (rn rc : Nat) (z : Rep) (w : World) (hp : PrgAt w p lp ln tp tn rp rn) (hrn9 : rn ≤ 1100000) : Calls Try.prog 12 #[.agg #[.slice lp ln lc, .int .i64 p.reserve, .slice tp tn tc, .slice rp rn rc], .agg #[.int .i64 z.tr, .int .i64 z.paid.lo, .int .i64 z.paid.hi]] w fun e w' => e = .returned (.bool true) ∧ Below w.heap.size w w' := by
  have HP := hid hp
  have HRD := hid (fun W (hW : Below w.heap.size w W) => ready_any p lp ln lc tp tn tc rp rn rc W (hp.below hW))
  clear hp
  obtain ⟨w0, hw0⟩ : ∃ V, ((w.alloc (.cells #[.slice lp ln lc, .int .i64 p.reserve, .slice tp tn tc, .slice rp rn rc] 26)).alloc (.cells #[.int .i64 z.tr, .int .i64 z.paid.lo, .int .i64 z.paid.hi] 104)) = V := ⟨_, rfl⟩
  have H0 : Hid (Boxed1 w #[.slice lp ln lc, .int .i64 p.reserve, .slice tp tn tc, .slice rp rn rc] 26 w0) := hid (by rw [← hw0]; exact (Boxed1.start _ _ _).alloc _)
  have HM : Hid (BoxIs (w.heap.size + 1) #[.int .i64 z.tr, .int .i64 z.paid.lo, .int .i64 z.paid.hi] w0) := hid (by have h := BoxIs.start (w.alloc (.cells #[.slice lp ln lc, .int .i64 p.reserve, .slice tp tn tc, .slice rp rn rc] 26)) #[.int .i64 z.tr, .int .i64 z.paid.lo, .int .i64 z.paid.hi] 104; rw [World.size_alloc, hw0] at h; exact h)
  have HZ0 : Hid (w0.heap.size = w.heap.size + 2) := hid (by rw [← hw0]; simp)
  go_enter Try.func12, Try.ntmps12
  skip
  have e0 := H0.out.cell 0 (v := .slice lp ln lc) rfl; have e1 := H0.out.cell 1 (v := .int .i64 p.reserve) rfl; have e2 := H0.out.cell 2 (v := .slice tp tn tc) rfl; have e3 := H0.out.cell 3 (v := .slice rp rn rc) rfl
  go_upto_region 2 with fail
  clear hw0 e0 e1 e2 e3
  obtain ⟨w1, hw1⟩ : ∃ V, w0.alloc (.cells #[.slice lp ln lc, .int .i64 p.reserve, .slice tp tn tc, .slice rp rn rc] 26) = V := ⟨_, rfl⟩
  rw [hw1]
  have hb : Below w0.heap.size w0 w1 := by rw [← hw1]; exact (Below.refl _ _).alloc (Nat.le_refl _) _
  have HX : Hid (BoxIs (w.heap.size + 2) #[.slice lp ln lc, .int .i64 p.reserve, .slice tp tn tc, .slice rp rn rc] w1) := hid (by have h := BoxIs.start w0 #[.slice lp ln lc, .int .i64 p.reserve, .slice tp tn tc, .slice rp rn rc] 26; rw [hw1, HZ0.out] at h; exact h)
  have H1 := hid (H0.out.step hb); replace HM := hid (HM.out.below hb)
  rw [HZ0.out]
  clear hw1 hb HZ0
  go_upto_region 2 with fail
  go_cut [] from 14 (fun wr => ∃ q9 m9 d9, BoxIs (w.heap.size + 2) #[.slice lp ln lc, .int .i64 p.reserve, .slice tp tn tc, .slice q9 m9 d9] wr ∧ RowsAt cellsE 3 wr q9 m9 (p.reps ++ [z]) ∧ Boxed1 w #[.slice lp ln lc, .int .i64 p.reserve, .slice tp tn tc, .slice rp rn rc] 26 wr ∧ Below (w.heap.size + 2) w1 wr ∧ BoxIs (w.heap.size + 1) #[.int .i64 z.tr, .int .i64 z.paid.lo, .int .i64 z.paid.hi] wr)
  case first =>
    obtain ⟨wd, hwd⟩ : ∃ V, w1.drew = V := ⟨_, rfl⟩
    have HD := hid H1.out.drew
    replace HX := hid (HX.out.below (Below.refl _ _).drew)
    replace HM := hid (HM.out.below (Below.refl _ _).drew)
    rw [hwd] at HD HX HM
    have HWD : Hid (Below w1.heap.size w1 wd) := hid (by rw [← hwd]; exact (Below.refl _ _).drew)
    have hB : Hid (Below wd.heap.size wd wd) := hid (Below.refl _ _)
    have HBL : Hid ((w.heap.size + 2) < wd.heap.size) := hid HX.out.1
    have HLO := hid HD.out.size
    have HBK : Hid ((w.heap.size + 2) ≤ w1.heap.size) := hid (by have h1 := HBL.out; rw [← hwd] at h1; exact Nat.le_of_lt h1)
    refine wp_region_held_drew (S := fun V => Boxed1 w #[.slice lp ln lc, .int .i64 p.reserve, .slice tp tn tc, .slice rp rn rc] 26 V ∧ Below (w.heap.size + 2) wd V) (by kernel_rfl) (by rw [hwd]; exact ⟨HD.out, Below.refl _ _⟩) (fun hS => ?_)
    rw [hwd] at hS ⊢
    clear hwd
    simp only [List.size_toArray, List.length_cons, List.length_nil, Nat.reduceAdd, Array.replicate_succ, Array.replicate_zero, List.push_toArray, List.nil_append, List.cons_append]
    refine tkH (i := 1) (v := ?_) (fun V hV => ?_) ?_
    rotate_left
    · go_simp
      try with_reducible rfl
    try simp only [Act.put, List.getElem_toArray, List.getElem_cons_zero, List.getElem_cons_succ, List.setIfInBounds_toArray, List.set_cons_zero, List.set_cons_succ]
    refine tkH (i := 2) (v := ?_) (fun V hV => ?_) ?_
    rotate_left
    · have e3 := hV.1.cell 3 (v := .slice rp rn rc) rfl; go_simp
      try with_reducible rfl
    try simp only [Act.put, List.getElem_toArray, List.getElem_cons_zero, List.getElem_cons_succ, List.setIfInBounds_toArray, List.set_cons_zero, List.set_cons_succ]
    refine tkH (i := 4) (v := ?_) (fun V hV => ?_) ?_
    rotate_left
    · have hM := HM.out.keep (hV.2.mono (Nat.le_refl _)) (by omega); have x0 := (hM.2 0 (.int .i64 z.tr) rfl).1; have x1 := (hM.2 1 (.int .i64 z.paid.lo) rfl).1; have x2 := (hM.2 2 (.int .i64 z.paid.hi) rfl).1; go_simp
      try with_reducible rfl
    try simp only [Act.put, List.getElem_toArray, List.getElem_cons_zero, List.getElem_cons_succ, List.setIfInBounds_toArray, List.set_cons_zero, List.set_cons_succ]
    refine wpAnyH_ready (rs := [0, 5]) (by kernel_rfl) (by simp) ?_
    refine AllReadyH.cons (o := _) rfl (fun K hK => ?_) ?_
    · skip
      obtain ⟨v0, hv0⟩ : ∃ V, wd.alloc (.cells #[] 104) = V := ⟨_, rfl⟩
      have hb : Below wd.heap.size wd v0 := by rw [← hv0]; exact (Below.refl _ _).alloc (Nat.le_refl _) _
      have hz0 : Hid (v0.heap.size = wd.heap.size + 1) := hid (by rw [← hv0]; exact World.size_alloc _ _)
      have HO : Hid (OwnRows cellsE 3 104 v0 wd.heap.size (.slice (some ⟨wd.heap.size, 0, none⟩) 0 0) []) := hid (by rw [← hv0]; exact World.ownsRow_lit wd #[] 0 hB.out.size (by decide) rfl)
      have HNX := hid (show Boxed1 w #[.slice lp ln lc, .int .i64 p.reserve, .slice tp tn tc, .slice rp rn rc] 26 v0 ∧ Below (w.heap.size + 2) wd v0 from ⟨hS.1.step hb, hS.2.trans (hb.mono (Nat.le_of_lt (Nat.lt_of_lt_of_le HBL.out hB.out.size)))⟩)
      replace hB := hid (hB.out.trans (hb.mono hB.out.size))
      clear hb hS
      go_simp
      clear hv0
      refine hK.out _ _ (HNX.out) (fun hS => ?_)
      clear hK K
      try simp only [List.setIfInBounds_toArray, List.set_cons_zero]
      refine wpAnyH_ready (rs := [3, 5]) (by kernel_rfl) (by simp) ?_
      refine AllReadyH.cons (o := _) rfl (fun K hK => ?_) ?_
      · skip
        refine step_append_rows cellsE_len (by decide) cellsE_one 24 104 _ 24 (by decide) Try.info104 rfl Try.und24 (by rfl) (.tmp 15) (.tmp 17) (by rfl) wd.heap.size _ [] rp rn rc p.reps HO.out (by rfl) (by rfl) (HP.out.r.below hS.1.below) (by simp) (by omega) hB.out.size ?_
        intro a3 v3 ho3 hb hkk
        rw [List.nil_append] at ho3
        have HO3 := hid ho3
        have HNX := hid (show Boxed1 w #[.slice lp ln lc, .int .i64 p.reserve, .slice tp tn tc, .slice rp rn rc] 26 v3 ∧ Below (w.heap.size + 2) wd v3 from ⟨hS.1.step' (hb.mono HLO.out), hS.2.trans (hb.mono (Nat.le_of_lt HBL.out))⟩)
        replace hB := hid (hB.out.trans hb)
        clear hb hkk ho3 HO hS
        refine hK.out _ _ (HNX.out) (fun hS => ?_)
        clear hK K
        try simp only [Act.put, List.getElem_toArray, List.getElem_cons_zero, List.getElem_cons_succ, List.setIfInBounds_toArray, List.set_cons_zero, List.set_cons_succ]
        refine wpAnyH_ready (rs := [5]) (by kernel_rfl) (by simp) ?_
        refine AllReadyH.cons (o := _) rfl (fun K hK => ?_) AllReadyH.nil
        obtain ⟨v5, hv5⟩ : ∃ V, v3.alloc (.cells (cellsE z).toArray 104) = V := ⟨_, rfl⟩
        have hb : Below v3.heap.size v3 v5 := by rw [← hv5]; exact (Below.refl _ _).alloc (Nat.le_refl _) _
        have hz5 : Hid (v5.heap.size = v3.heap.size + 1) := hid (by rw [← hv5]; exact World.size_alloc _ _)
        have H1 : Hid (RowsAt cellsE 3 v5 (some ⟨v3.heap.size, 0, none⟩) 1 [z]) := hid (by rw [← hv5]; have h := lit_rows cellsE_len [z] v3 104; simpa using h)
        replace HO3 := hid (HO3.out.below hb)
        have HNX := hid (show Boxed1 w #[.slice lp ln lc, .int .i64 p.reserve, .slice tp tn tc, .slice rp rn rc] 26 v5 ∧ Below (w.heap.size + 2) wd v5 from ⟨hS.1.step hb, hS.2.trans (hb.mono (Nat.le_of_lt (Nat.lt_of_lt_of_le HBL.out hB.out.size)))⟩)
        replace hB := hid (hB.out.trans (hb.mono hB.out.size))
        clear hb hS
        unfold cellsE at hv5
        go_simp
        clear hv5
        refine hK.out _ _ (HNX.out) (fun hS => ?_)
        clear hK K
        try simp only [List.setIfInBounds_toArray, List.set_cons_zero, List.set_cons_succ]
        refine wpAnyH_ready (rs := [6]) (by kernel_rfl) (by simp) ?_
        refine AllReadyH.cons (o := _) rfl (fun K hK => ?_) AllReadyH.nil
        refine step_append_rows cellsE_len (by decide) cellsE_one 24 104 _ 24 (by decide) Try.info104 rfl Try.und24 (by rfl) (.tmp 18) (.tmp 20) (by rfl) wd.heap.size _ p.reps _ 1 1 [z] HO3.out (by rfl) (by rfl) H1.out (by have h1 := HP.out.r.1; omega) (by omega) hB.out.size ?_
        intro a6 v6 ho6 hb hkk
        have HNX := hid (show Boxed1 w #[.slice lp ln lc, .int .i64 p.reserve, .slice tp tn tc, .slice rp rn rc] 26 v6 ∧ Below (w.heap.size + 2) wd v6 from ⟨hS.1.step' (hb.mono HLO.out), hS.2.trans (hb.mono (Nat.le_of_lt HBL.out))⟩)
        replace hB := hid (hB.out.trans hb)
        clear hb hkk H1 HO3 hS
        obtain ⟨q9, d9, rfl, hq9⟩ := ho6.slice cellsE_len
        obtain ⟨m9, hm9⟩ : ∃ a, (p.reps ++ [z]).length = a := ⟨_, rfl⟩
        rw [hm9] at hq9 ho6 ⊢
        have HQ9 := hid hq9; have HO6 := hid ho6
        clear hq9 ho6 hm9
        refine hK.out _ _ (HNX.out) (fun hS => ?_)
        clear hK K
        try simp only [Act.put, List.getElem_toArray, List.getElem_cons_zero, List.getElem_cons_succ, List.setIfInBounds_toArray, List.set_cons_zero, List.set_cons_succ]
        refine tkH (i := 7) (v := ?_) (fun V hV => ?_) ?_
        rotate_left
        · go_simp
          try with_reducible rfl
        try simp only [Act.put, List.getElem_toArray, List.getElem_cons_zero, List.getElem_cons_succ, List.setIfInBounds_toArray, List.set_cons_zero, List.set_cons_succ]
        refine wpAnyH_ready (rs := [8]) (by kernel_rfl) (by simp) ?_
        refine AllReadyH.cons (o := _) rfl (fun K hK => ?_) AllReadyH.nil
        have HXv := hid (HX.out.keep hB.out HBL.out)
        have k11 := (HXv.out.2 3 (.slice rp rn rc) rfl).1; have f11 := (HXv.out.2 3 (.slice rp rn rc) rfl).2
        have HXF : Hid (BoxIs (w.heap.size + 2) #[.slice lp ln lc, .int .i64 p.reserve, .slice tp tn tc, .slice q9 m9 d9] (v6.setCell ⟨(w.heap.size + 2), 3, none⟩ (.slice q9 m9 d9))) := hid (HXv.out.put (j := 3) (.slice q9 m9 d9))
        have HKF : Hid (RowsAt cellsE 3 (v6.setCell ⟨(w.heap.size + 2), 3, none⟩ (.slice q9 m9 d9)) q9 m9 (p.reps ++ [z])) := hid (HQ9.out.kept (by simp [World.setCell]) (fun a ha h0 hlt => Below.heap_setCell _ _ _ _ (by have h7 : wd.heap.size ≤ a.block := (by cases ha; exact (HO6.out.lt _ rfl).1); have h8 := HBL.out; show a.block ≠ (w.heap.size + 2); omega)))
        have HMF := hid (((HM.out.keep hB.out HM.out.1)).other (b' := (w.heap.size + 2)) (k' := 3) (by omega) (.slice q9 m9 d9))
        have HNX := hid (show Boxed1 w #[.slice lp ln lc, .int .i64 p.reserve, .slice tp tn tc, .slice rp rn rc] 26 (v6.setCell ⟨(w.heap.size + 2), 3, none⟩ (.slice q9 m9 d9)) ∧ Below (w.heap.size + 2) wd (v6.setCell ⟨(w.heap.size + 2), 3, none⟩ (.slice q9 m9 d9)) from ⟨hS.1.step' ((Below.refl _ _).setCell (p := ⟨(w.heap.size + 2), 3, none⟩) (by show w.heap.size + 1 ≤ (w.heap.size + 2); omega) _), hS.2.setCell (p := ⟨(w.heap.size + 2), 3, none⟩) (Nat.le_refl _) _⟩)
        clear hS
        go_simp
        clear k11 f11
        generalize (v6.setCell ⟨(w.heap.size + 2), 3, none⟩ (.slice q9 m9 d9)) = v9 at HXF HKF HNX HMF ⊢
        refine hK.out _ _ (HNX.out) (fun hS => ?_)
        clear hK K
        try simp only [List.setIfInBounds_toArray, List.set_cons_zero, List.set_cons_succ]
        refine wpAnyH_done (by kernel_rfl) ?_ _
        go_wp2
        go_meet
        case rel => exact ⟨q9, m9, d9, HXF.out, HKF.out, hS.1, Below.trans (HWD.out.mono HBK.out) hS.2, HMF.out⟩
      refine AllReadyH.cons (o := _) rfl (fun K hK => ?_) AllReadyH.nil
      obtain ⟨v5, hv5⟩ : ∃ V, v0.alloc (.cells (cellsE z).toArray 104) = V := ⟨_, rfl⟩
      have hb : Below v0.heap.size v0 v5 := by rw [← hv5]; exact (Below.refl _ _).alloc (Nat.le_refl _) _
      have hz5 : Hid (v5.heap.size = v0.heap.size + 1) := hid (by rw [← hv5]; exact World.size_alloc _ _)
      have H1 : Hid (RowsAt cellsE 3 v5 (some ⟨v0.heap.size, 0, none⟩) 1 [z]) := hid (by rw [← hv5]; have h := lit_rows cellsE_len [z] v0 104; simpa using h)
      replace HO := hid (HO.out.below hb)
      have HNX := hid (show Boxed1 w #[.slice lp ln lc, .int .i64 p.reserve, .slice tp tn tc, .slice rp rn rc] 26 v5 ∧ Below (w.heap.size + 2) wd v5 from ⟨hS.1.step hb, hS.2.trans (hb.mono (Nat.le_of_lt (Nat.lt_of_lt_of_le HBL.out hB.out.size)))⟩)
      replace hB := hid (hB.out.trans (hb.mono hB.out.size))
      clear hb hS
      unfold cellsE at hv5
      go_simp
      clear hv5
      refine hK.out _ _ (HNX.out) (fun hS => ?_)
      clear hK K
      try simp only [List.setIfInBounds_toArray, List.set_cons_zero, List.set_cons_succ]
      refine wpAnyH_ready (rs := [3]) (by kernel_rfl) (by simp) ?_
      refine AllReadyH.cons (o := _) rfl (fun K hK => ?_) AllReadyH.nil
      refine step_append_rows cellsE_len (by decide) cellsE_one 24 104 _ 24 (by decide) Try.info104 rfl Try.und24 (by rfl) (.tmp 15) (.tmp 17) (by rfl) wd.heap.size _ [] rp rn rc p.reps HO.out (by rfl) (by rfl) (HP.out.r.below hS.1.below) (by simp) (by omega) hB.out.size ?_
      intro a3 v3 ho3 hb hkk
      rw [List.nil_append] at ho3
      have HO3 := hid ho3
      replace H1 := hid (H1.out.kept hb.size (fun a ha _ hlt => hkk _ hlt (by cases ha; intro e; have e2 : v0.heap.size = wd.heap.size := (by simpa [Value.ownBlock] using e); have e3 := hz0.out; omega)))
      have HNX := hid (show Boxed1 w #[.slice lp ln lc, .int .i64 p.reserve, .slice tp tn tc, .slice rp rn rc] 26 v3 ∧ Below (w.heap.size + 2) wd v3 from ⟨hS.1.step' (hb.mono HLO.out), hS.2.trans (hb.mono (Nat.le_of_lt HBL.out))⟩)
      replace hB := hid (hB.out.trans hb)
      clear hb hkk ho3 HO hS
      refine hK.out _ _ (HNX.out) (fun hS => ?_)
      clear hK K
      try simp only [Act.put, List.getElem_toArray, List.getElem_cons_zero, List.getElem_cons_succ, List.setIfInBounds_toArray, List.set_cons_zero, List.set_cons_succ]
      refine wpAnyH_ready (rs := [6]) (by kernel_rfl) (by simp) ?_
      refine AllReadyH.cons (o := _) rfl (fun K hK => ?_) AllReadyH.nil
      refine step_append_rows cellsE_len (by decide) cellsE_one 24 104 _ 24 (by decide) Try.info104 rfl Try.und24 (by rfl) (.tmp 18) (.tmp 20) (by rfl) wd.heap.size _ p.reps _ 1 1 [z] HO3.out (by rfl) (by rfl) H1.out (by have h1 := HP.out.r.1; omega) (by omega) hB.out.size ?_
      intro a6 v6 ho6 hb hkk
      have HNX := hid (show Boxed1 w #[.slice lp ln lc, .int .i64 p.reserve, .slice tp tn tc, .slice rp rn rc] 26 v6 ∧ Below (w.heap.size + 2) wd v6 from ⟨hS.1.step' (hb.mono HLO.out), hS.2.trans (hb.mono (Nat.le_of_lt HBL.out))⟩)
      replace hB := hid (hB.out.trans hb)
      clear hb hkk H1 HO3 hS
      obtain ⟨q9, d9, rfl, hq9⟩ := ho6.slice cellsE_len
      obtain ⟨m9, hm9⟩ : ∃ a, (p.reps ++ [z]).length = a := ⟨_, rfl⟩
      rw [hm9] at hq9 ho6 ⊢
      have HQ9 := hid hq9; have HO6 := hid ho6
      clear hq9 ho6 hm9
      refine hK.out _ _ (HNX.out) (fun hS => ?_)
      clear hK K
      try simp only [Act.put, List.getElem_toArray, List.getElem_cons_zero, List.getElem_cons_succ, List.setIfInBounds_toArray, List.set_cons_zero, List.set_cons_succ]
      refine tkH (i := 7) (v := ?_) (fun V hV => ?_) ?_
      rotate_left
      · go_simp
        try with_reducible rfl
      try simp only [Act.put, List.getElem_toArray, List.getElem_cons_zero, List.getElem_cons_succ, List.setIfInBounds_toArray, List.set_cons_zero, List.set_cons_succ]
      refine wpAnyH_ready (rs := [8]) (by kernel_rfl) (by simp) ?_
      refine AllReadyH.cons (o := _) rfl (fun K hK => ?_) AllReadyH.nil
      have HXv := hid (HX.out.keep hB.out HBL.out)
      have k11 := (HXv.out.2 3 (.slice rp rn rc) rfl).1; have f11 := (HXv.out.2 3 (.slice rp rn rc) rfl).2
      have HXF : Hid (BoxIs (w.heap.size + 2) #[.slice lp ln lc, .int .i64 p.reserve, .slice tp tn tc, .slice q9 m9 d9] (v6.setCell ⟨(w.heap.size + 2), 3, none⟩ (.slice q9 m9 d9))) := hid (HXv.out.put (j := 3) (.slice q9 m9 d9))
      have HKF : Hid (RowsAt cellsE 3 (v6.setCell ⟨(w.heap.size + 2), 3, none⟩ (.slice q9 m9 d9)) q9 m9 (p.reps ++ [z])) := hid (HQ9.out.kept (by simp [World.setCell]) (fun a ha h0 hlt => Below.heap_setCell _ _ _ _ (by have h7 : wd.heap.size ≤ a.block := (by cases ha; exact (HO6.out.lt _ rfl).1); have h8 := HBL.out; show a.block ≠ (w.heap.size + 2); omega)))
      have HMF := hid (((HM.out.keep hB.out HM.out.1)).other (b' := (w.heap.size + 2)) (k' := 3) (by omega) (.slice q9 m9 d9))
      have HNX := hid (show Boxed1 w #[.slice lp ln lc, .int .i64 p.reserve, .slice tp tn tc, .slice rp rn rc] 26 (v6.setCell ⟨(w.heap.size + 2), 3, none⟩ (.slice q9 m9 d9)) ∧ Below (w.heap.size + 2) wd (v6.setCell ⟨(w.heap.size + 2), 3, none⟩ (.slice q9 m9 d9)) from ⟨hS.1.step' ((Below.refl _ _).setCell (p := ⟨(w.heap.size + 2), 3, none⟩) (by show w.heap.size + 1 ≤ (w.heap.size + 2); omega) _), hS.2.setCell (p := ⟨(w.heap.size + 2), 3, none⟩) (Nat.le_refl _) _⟩)
      clear hS
      go_simp
      clear k11 f11
      generalize (v6.setCell ⟨(w.heap.size + 2), 3, none⟩ (.slice q9 m9 d9)) = v9 at HXF HKF HNX HMF ⊢
      refine hK.out _ _ (HNX.out) (fun hS => ?_)
      clear hK K
      try simp only [List.setIfInBounds_toArray, List.set_cons_zero, List.set_cons_succ]
      refine wpAnyH_done (by kernel_rfl) ?_ _
      go_wp2
      go_meet
      case rel => exact ⟨q9, m9, d9, HXF.out, HKF.out, hS.1, Below.trans (HWD.out.mono HBK.out) hS.2, HMF.out⟩
    refine AllReadyH.cons (o := _) rfl (fun K hK => ?_) AllReadyH.nil
    obtain ⟨v5, hv5⟩ : ∃ V, wd.alloc (.cells (cellsE z).toArray 104) = V := ⟨_, rfl⟩
    have hb : Below wd.heap.size wd v5 := by rw [← hv5]; exact (Below.refl _ _).alloc (Nat.le_refl _) _
    have hz5 : Hid (v5.heap.size = wd.heap.size + 1) := hid (by rw [← hv5]; exact World.size_alloc _ _)
    have H1 : Hid (RowsAt cellsE 3 v5 (some ⟨wd.heap.size, 0, none⟩) 1 [z]) := hid (by rw [← hv5]; have h := lit_rows cellsE_len [z] wd 104; simpa using h)
    have HNX := hid (show Boxed1 w #[.slice lp ln lc, .int .i64 p.reserve, .slice tp tn tc, .slice rp rn rc] 26 v5 ∧ Below (w.heap.size + 2) wd v5 from ⟨hS.1.step hb, hS.2.trans (hb.mono (Nat.le_of_lt (Nat.lt_of_lt_of_le HBL.out hB.out.size)))⟩)
    replace hB := hid (hB.out.trans (hb.mono hB.out.size))
    clear hb hS
    unfold cellsE at hv5
    go_simp
    clear hv5
    refine hK.out _ _ (HNX.out) (fun hS => ?_)
    clear hK K
    try simp only [List.setIfInBounds_toArray, List.set_cons_zero, List.set_cons_succ]
    refine wpAnyH_ready (rs := [0]) (by kernel_rfl) (by simp) ?_
    refine AllReadyH.cons (o := _) rfl (fun K hK => ?_) AllReadyH.nil
    obtain ⟨v0, hv0⟩ : ∃ V, v5.alloc (.cells #[] 104) = V := ⟨_, rfl⟩
    have hb : Below v5.heap.size v5 v0 := by rw [← hv0]; exact (Below.refl _ _).alloc (Nat.le_refl _) _
    have hz0 : Hid (v0.heap.size = v5.heap.size + 1) := hid (by rw [← hv0]; exact World.size_alloc _ _)
    have HO : Hid (OwnRows cellsE 3 104 v0 wd.heap.size (.slice (some ⟨v5.heap.size, 0, none⟩) 0 0) []) := hid (by rw [← hv0]; exact World.ownsRow_lit v5 #[] 0 hB.out.size (by decide) rfl)
    replace H1 := hid (H1.out.below hb)
    have HNX := hid (show Boxed1 w #[.slice lp ln lc, .int .i64 p.reserve, .slice tp tn tc, .slice rp rn rc] 26 v0 ∧ Below (w.heap.size + 2) wd v0 from ⟨hS.1.step hb, hS.2.trans (hb.mono (Nat.le_of_lt (Nat.lt_of_lt_of_le HBL.out hB.out.size)))⟩)
    replace hB := hid (hB.out.trans (hb.mono hB.out.size))
    clear hb hS
    go_simp
    clear hv0
    refine hK.out _ _ (HNX.out) (fun hS => ?_)
    clear hK K
    try simp only [List.setIfInBounds_toArray, List.set_cons_zero]
    refine wpAnyH_ready (rs := [3]) (by kernel_rfl) (by simp) ?_
    refine AllReadyH.cons (o := _) rfl (fun K hK => ?_) AllReadyH.nil
    refine step_append_rows cellsE_len (by decide) cellsE_one 24 104 _ 24 (by decide) Try.info104 rfl Try.und24 (by rfl) (.tmp 15) (.tmp 17) (by rfl) wd.heap.size _ [] rp rn rc p.reps HO.out (by rfl) (by rfl) (HP.out.r.below hS.1.below) (by simp) (by omega) hB.out.size ?_
    intro a3 v3 ho3 hb hkk
    rw [List.nil_append] at ho3
    have HO3 := hid ho3
    replace H1 := hid (H1.out.kept hb.size (fun a ha _ hlt => hkk _ hlt (by cases ha; intro e; have e2 : wd.heap.size = v5.heap.size := (by simpa [Value.ownBlock] using e); have e3 := hz5.out; omega)))
    have HNX := hid (show Boxed1 w #[.slice lp ln lc, .int .i64 p.reserve, .slice tp tn tc, .slice rp rn rc] 26 v3 ∧ Below (w.heap.size + 2) wd v3 from ⟨hS.1.step' (hb.mono HLO.out), hS.2.trans (hb.mono (Nat.le_of_lt HBL.out))⟩)
    replace hB := hid (hB.out.trans hb)
    clear hb hkk ho3 HO hS
    refine hK.out _ _ (HNX.out) (fun hS => ?_)
    clear hK K
    try simp only [Act.put, List.getElem_toArray, List.getElem_cons_zero, List.getElem_cons_succ, List.setIfInBounds_toArray, List.set_cons_zero, List.set_cons_succ]
    refine wpAnyH_ready (rs := [6]) (by kernel_rfl) (by simp) ?_
    refine AllReadyH.cons (o := _) rfl (fun K hK => ?_) AllReadyH.nil
    refine step_append_rows cellsE_len (by decide) cellsE_one 24 104 _ 24 (by decide) Try.info104 rfl Try.und24 (by rfl) (.tmp 18) (.tmp 20) (by rfl) wd.heap.size _ p.reps _ 1 1 [z] HO3.out (by rfl) (by rfl) H1.out (by have h1 := HP.out.r.1; omega) (by omega) hB.out.size ?_
    intro a6 v6 ho6 hb hkk
    have HNX := hid (show Boxed1 w #[.slice lp ln lc, .int .i64 p.reserve, .slice tp tn tc, .slice rp rn rc] 26 v6 ∧ Below (w.heap.size + 2) wd v6 from ⟨hS.1.step' (hb.mono HLO.out), hS.2.trans (hb.mono (Nat.le_of_lt HBL.out))⟩)
    replace hB := hid (hB.out.trans hb)
    clear hb hkk H1 HO3 hS
    obtain ⟨q9, d9, rfl, hq9⟩ := ho6.slice cellsE_len
    obtain ⟨m9, hm9⟩ : ∃ a, (p.reps ++ [z]).length = a := ⟨_, rfl⟩
    rw [hm9] at hq9 ho6 ⊢
    have HQ9 := hid hq9; have HO6 := hid ho6
    clear hq9 ho6 hm9
    refine hK.out _ _ (HNX.out) (fun hS => ?_)
    clear hK K
    try simp only [Act.put, List.getElem_toArray, List.getElem_cons_zero, List.getElem_cons_succ, List.setIfInBounds_toArray, List.set_cons_zero, List.set_cons_succ]
    refine tkH (i := 7) (v := ?_) (fun V hV => ?_) ?_
    rotate_left
    · go_simp
      try with_reducible rfl
    try simp only [Act.put, List.getElem_toArray, List.getElem_cons_zero, List.getElem_cons_succ, List.setIfInBounds_toArray, List.set_cons_zero, List.set_cons_succ]
    refine wpAnyH_ready (rs := [8]) (by kernel_rfl) (by simp) ?_
    refine AllReadyH.cons (o := _) rfl (fun K hK => ?_) AllReadyH.nil
    have HXv := hid (HX.out.keep hB.out HBL.out)
    have k11 := (HXv.out.2 3 (.slice rp rn rc) rfl).1; have f11 := (HXv.out.2 3 (.slice rp rn rc) rfl).2
    have HXF : Hid (BoxIs (w.heap.size + 2) #[.slice lp ln lc, .int .i64 p.reserve, .slice tp tn tc, .slice q9 m9 d9] (v6.setCell ⟨(w.heap.size + 2), 3, none⟩ (.slice q9 m9 d9))) := hid (HXv.out.put (j := 3) (.slice q9 m9 d9))
    have HKF : Hid (RowsAt cellsE 3 (v6.setCell ⟨(w.heap.size + 2), 3, none⟩ (.slice q9 m9 d9)) q9 m9 (p.reps ++ [z])) := hid (HQ9.out.kept (by simp [World.setCell]) (fun a ha h0 hlt => Below.heap_setCell _ _ _ _ (by have h7 : wd.heap.size ≤ a.block := (by cases ha; exact (HO6.out.lt _ rfl).1); have h8 := HBL.out; show a.block ≠ (w.heap.size + 2); omega)))
    have HMF := hid (((HM.out.keep hB.out HM.out.1)).other (b' := (w.heap.size + 2)) (k' := 3) (by omega) (.slice q9 m9 d9))
    have HNX := hid (show Boxed1 w #[.slice lp ln lc, .int .i64 p.reserve, .slice tp tn tc, .slice rp rn rc] 26 (v6.setCell ⟨(w.heap.size + 2), 3, none⟩ (.slice q9 m9 d9)) ∧ Below (w.heap.size + 2) wd (v6.setCell ⟨(w.heap.size + 2), 3, none⟩ (.slice q9 m9 d9)) from ⟨hS.1.step' ((Below.refl _ _).setCell (p := ⟨(w.heap.size + 2), 3, none⟩) (by show w.heap.size + 1 ≤ (w.heap.size + 2); omega) _), hS.2.setCell (p := ⟨(w.heap.size + 2), 3, none⟩) (Nat.le_refl _) _⟩)
    clear hS
    go_simp
    clear k11 f11
    generalize (v6.setCell ⟨(w.heap.size + 2), 3, none⟩ (.slice q9 m9 d9)) = v9 at HXF HKF HNX HMF ⊢
    refine hK.out _ _ (HNX.out) (fun hS => ?_)
    clear hK K
    try simp only [List.setIfInBounds_toArray, List.set_cons_zero, List.set_cons_succ]
    refine wpAnyH_done (by kernel_rfl) ?_ _
    go_wp2
    go_meet
    case rel => exact ⟨q9, m9, d9, HXF.out, HKF.out, hS.1, Below.trans (HWD.out.mono HBK.out) hS.2, HMF.out⟩
  case rest =>
    obtain ⟨q9, m9, d9, hx, hk, hbx, hbw, hHM⟩ := hcut
    replace HX := hid hx; have HK := hid hk; have H2 := hid hbx; replace HM := hid hHM
    clear hx hk hbx hHM
    generalize wc = w2 at HX HK H2 HM ⊢
    clear hbw
    have HPX : Hid (PrgAt w2 (addR p z) lp ln tp tn q9 m9) := hid ⟨HP.out.l.below H2.out.below, HP.out.t.below H2.out.below, HK.out⟩
    clear HK HM
    have e0 := H2.out.cell 0 (v := .slice lp ln lc) rfl; have e1 := H2.out.cell 1 (v := .int .i64 p.reserve) rfl; have e2 := H2.out.cell 2 (v := .slice tp tn tc) rfl; have e3 := H2.out.cell 3 (v := .slice rp rn rc) rfl
    go_wp2_with fail
    (with_reducible refine (HRD.out _ ?_).mono ?_)
    · exact H2.out.below
    rintro e w3 ⟨rfl, hb⟩
    have H3 := hid (H2.out.step hb)
    replace HX := hid (HX.out.below hb)
    replace HPX := hid (HPX.out.below hb)
    clear e0 e1 e2 e3 hb 
    cases hrd : readyB p
    · clear hrd
      go_wp2_with fail
      (with_reducible refine (awake_any _).mono ?_)
      rintro e w99 ⟨rfl, hb⟩
      go_wp2_with fail
      go_ret
      exact ⟨rfl, H3.out.below.trans (hb.mono H3.out.below.size)⟩
    · have HOK := hid (ready_iff.1 hrd).1
      clear hrd
      have x0 := (HX.out.2 0 (.slice lp ln lc) rfl).1; have x1 := (HX.out.2 1 (.int .i64 p.reserve) rfl).1; have x2 := (HX.out.2 2 (.slice tp tn tc) rfl).1; have x3 := (HX.out.2 3 (.slice q9 m9 d9) rfl).1
      go_wp2_with fail
      refine (ready_any (addR p z) lp ln lc tp tn tc q9 m9 d9 w3 HPX.out).mono ?_
      rintro e w4 ⟨rfl, hb⟩
      have H4 := hid (H3.out.step hb)
      replace HX := hid (HX.out.below hb)
      replace HPX := hid (HPX.out.below hb)
      clear hb x0 x1 x2 x3
      cases hrx : readyB (addR p z)
      · clear hrx
        go_wp2_with fail
        (with_reducible refine (awake_any _).mono ?_)
        rintro e w99 ⟨rfl, hb⟩
        go_wp2_with fail
        go_ret
        exact ⟨rfl, H4.out.below.trans (hb.mono H4.out.below.size)⟩
      · have HOX := hid (ready_iff.1 hrx).1
        clear hrx
        have hln : ln ≤ 4 := by have := HP.out.l.1; have := HOK.out.n4; omega
        have htn : tn ≤ 5 := by have := HP.out.t.1; have := HOK.out.m5; omega
        have hrn : rn ≤ 5 := by have := HP.out.r.1; have := HOK.out.k5; omega
        have hmx : m9 ≤ 5 := by have := HPX.out.r.1; have := HOX.out.k5; omega
        have HF0 := hid (fault_iff.2 HOK.out); have HFX := hid (fault_iff.2 HOX.out)
        have e0 := H4.out.cell 0 (v := .slice lp ln lc) rfl; have e1 := H4.out.cell 1 (v := .int .i64 p.reserve) rfl; have e2 := H4.out.cell 2 (v := .slice tp tn tc) rfl; have e3 := H4.out.cell 3 (v := .slice rp rn rc) rfl
        go_wp2_with fail
        (with_reducible refine (prog_any p lp ln lc tp tn tc rp rn rc w4 (HP.out.below H4.out.below) (by omega) (by omega) (by omega)).mono ?_)
        rintro e w5 ⟨lq1, lc1, tq1, tc1, rq1, rc1, rfl, hpx, hcx, hb⟩
        have H5 := hid (H4.out.step hb)
        replace HX := hid (HX.out.below hb)
        replace HPX := hid (HPX.out.below hb)
        have HP1 := hid hpx; have HC1 := hid hcx
        clear e0 e1 e2 e3 hb hpx hcx
        go_wp2_with fail
        refine (leave_any p lq1 ln lc1 tq1 tn tc1 rq1 rn rc1 w5 HP1.out).mono ?_
        rintro e w6 ⟨ql, kl, dl, rfl, hi, hb⟩
        have H6 := hid (H5.out.step hb)
        replace HX := hid (HX.out.below hb)
        replace HPX := hid (HPX.out.below hb)
        replace HP1 := hid (HP1.out.below hb)
        have hlv : leaveV p = leaveP p := by rw [leaveV, if_pos HF0.out]
        rw [hlv] at hi
        have HKl := hid hi.1
        rw [HF0.out]
        clear hb hi hlv
        have x0 := (HX.out.2 0 (.slice lp ln lc) rfl).1; have x1 := (HX.out.2 1 (.int .i64 p.reserve) rfl).1; have x2 := (HX.out.2 2 (.slice tp tn tc) rfl).1; have x3 := (HX.out.2 3 (.slice q9 m9 d9) rfl).1
        go_wp2_with fail
        refine (prog_any (addR p z) lp ln lc tp tn tc q9 m9 d9 w6 HPX.out (by omega) (by omega) (by omega)).mono ?_
        rintro e w7 ⟨lq2, lc2, tq2, tc2, rq2, rc2, rfl, hpx, hcx, hb⟩
        have H7 := hid (H6.out.step hb)
        replace HX := hid (HX.out.below hb)
        replace HPX := hid (HPX.out.below hb)
        have HP2 := hid hpx
        clear hb hpx hcx x0 x1 x2 x3
        go_wp2_with fail
        refine (leave_any (addR p z) lq2 ln lc2 tq2 tn tc2 rq2 m9 rc2 w7 HP2.out).mono ?_
        rintro e w8 ⟨qm, km, dm, rfl, hi, hb⟩
        have H8 := hid (H7.out.step hb)
        replace HX := hid (HX.out.below hb)
        replace HPX := hid (HPX.out.below hb)
        replace HP2 := hid (HP2.out.below hb)
        have hlv : leaveV (addR p z) = leaveP (addR p z) := by rw [leaveV, if_pos HFX.out]
        rw [hlv] at hi
        have HKm := hid hi.1
        rw [HFX.out]
        clear hb hi hlv
        obtain ⟨e1, he1⟩ : ∃ v, errP p = v := ⟨_, rfl⟩
        obtain ⟨e2, he2⟩ : ∃ v, errP (addR p z) = v := ⟨_, rfl⟩
        have HE1 := hid he1; have HE2 := hid he2
        clear he1 he2
        skip
        have e0 := H8.out.cell 0 (v := .slice lp ln lc) rfl; have e1 := H8.out.cell 1 (v := .int .i64 p.reserve) rfl; have e2 := H8.out.cell 2 (v := .slice tp tn tc) rfl; have e3 := H8.out.cell 3 (v := .slice rp rn rc) rfl
        go_wp2_with fail
        (with_reducible refine (prog_any p lp ln lc tp tn tc rp rn rc w8 (HP.out.below H8.out.below) (by omega) (by omega) (by omega)).mono ?_)
        rintro e w9 ⟨lq3, lc3, tq3, tc3, rq3, rc3, rfl, hpx, hcx, hb⟩
        have H9 := hid (H8.out.step hb)
        replace HX := hid (HX.out.below hb)
        replace HPX := hid (HPX.out.below hb)
        have HP3 := hid hpx; have HC3 := hid hcx
        clear e0 e1 e2 e3 hb hpx hcx
        go_wp2_with fail
        refine (bounds_any p lq3 ln lc3 tq3 tn tc3 rq3 rn rc3 w9 HP3.out).mono ?_
        rintro e w10 ⟨v, rfl, hown, hb⟩
        have H10 := hid (H9.out.step hb)
        replace HX := hid (HX.out.below hb)
        replace HPX := hid (HPX.out.below hb)
        replace HP3 := hid (HP3.out.below hb)
        obtain ⟨qa, da, rfl, hrb⟩ := hown.slice cellsB_len
        obtain ⟨ma, hmb⟩ : ∃ m, (bndsP p).length = m := ⟨_, rfl⟩
        have HMBa := hid hmb
        rw [hmb] at hrb ⊢
        have HRBa := hid hrb
        rw [HE1.out]
        clear hb hrb hown hmb
        have x0 := (HX.out.2 0 (.slice lp ln lc) rfl).1; have x1 := (HX.out.2 1 (.int .i64 p.reserve) rfl).1; have x2 := (HX.out.2 2 (.slice tp tn tc) rfl).1; have x3 := (HX.out.2 3 (.slice q9 m9 d9) rfl).1
        go_wp2_with fail
        refine (prog_any (addR p z) lp ln lc tp tn tc q9 m9 d9 w10 HPX.out (by omega) (by omega) (by omega)).mono ?_
        rintro e w11 ⟨lq4, lc4, tq4, tc4, rq4, rc4, rfl, hpx, hcx, hb⟩
        have H11 := hid (H10.out.step hb)
        replace HX := hid (HX.out.below hb)
        replace HPX := hid (HPX.out.below hb)
        replace HRBa := hid (HRBa.out.below hb)
        have HP4 := hid hpx
        clear hb hpx hcx x0 x1 x2 x3
        go_wp2_with fail
        refine (bounds_any (addR p z) lq4 ln lc4 tq4 tn tc4 rq4 m9 rc4 w11 HP4.out).mono ?_
        rintro e w12 ⟨v, rfl, hown, hb⟩
        have H12 := hid (H11.out.step hb)
        replace HX := hid (HX.out.below hb)
        replace HPX := hid (HPX.out.below hb)
        replace HRBa := hid (HRBa.out.below hb)
        replace HP4 := hid (HP4.out.below hb)
        obtain ⟨qb, db, rfl, hrb⟩ := hown.slice cellsB_len
        obtain ⟨mb, hmb⟩ : ∃ m, (bndsP (addR p z)).length = m := ⟨_, rfl⟩
        have HMBb := hid hmb
        rw [hmb] at hrb ⊢
        have HRBb := hid hrb
        rw [HE2.out]
        clear hb hrb hown hmb
        have hml := more_len HOK.out HOX.out
        rw [← HKl.out, ← HKm.out] at hml
        have hk5 : kl ≤ 5 := by rw [HKl.out]; exact leave_len HOK.out
        have hc1 : ¬ (km : Int) < kl := by omega
        have hc1b : ¬ km < kl := by omega
        have hc2 : ¬ (kl : Int) + 1 < km := by omega
        have hc2b : ¬ kl + 1 < km := by omega
        have hw1 : IntKind.i64.wrap ((kl : Int) + 1) = (kl : Int) + 1 := IntWalk.i64_in _ (by omega)
        have HC1 := hid (err_cas HOK.out); have HC2 := hid (err_cas HOX.out)
        rw [HE1.out] at HC1
        rw [HE2.out] at HC2
        cases hpx : possO (addR p z) allT []
        · have h2 : e2 = 11 := by rw [HC2.out, hpx]; rfl
          subst h2
          cases hpp : possO p allT []
          · have h1 : e1 = 11 := by rw [HC1.out, hpp]; rfl
            subst h1
            clear hml hpp hpx
            go_wp2_with fail
            (with_reducible refine (awake_any _).mono ?_)
            rintro e w99 ⟨rfl, hb⟩
            go_wp2_with fail
            go_ret
            exact ⟨rfl, H12.out.below.trans (hb.mono H12.out.below.size)⟩
          · have h1 : e1 = 0 := by rw [HC1.out, hpp]; rfl
            subst h1
            clear hml hpp hpx
            go_wp2_with fail
            (with_reducible refine (awake_any _).mono ?_)
            rintro e w99 ⟨rfl, hb⟩
            go_wp2_with fail
            go_ret
            exact ⟨rfl, H12.out.below.trans (hb.mono H12.out.below.size)⟩
        · have h2 : e2 = 0 := by rw [HC2.out, hpx]; rfl
          subst h2
          have hpp := poss_sub (more_tru (p := p) (m := z)) hpx
          have h1 : e1 = 0 := by rw [HC1.out, hpp]; rfl
          subst h1
          have HNR := hid (narrow_of (more_tru (p := p) (m := z)) rfl HE2.out HE1.out HOX.out)
          have hma : tn = ma := by rw [← HMBa.out, bnds_len0 HE1.out, HP.out.t.1]
          have hmb2 : tn = mb := by rw [← HMBb.out, bnds_len0 HE2.out]; exact HP.out.t.1
          subst hma
          subst hmb2
          clear hml hpp hpx HC1 HC2
          go_wp2_with fail
          refine (narrow_any qb tn db (bndsP (addR p z)) qa da (bndsP p) w12 HRBb.out HRBa.out (by omega) HNR.out).mono ?_
          rintro e w13 ⟨rfl, hb⟩
          have H13 := hid (H12.out.step hb)
          replace HX := hid (HX.out.below hb)
          replace HPX := hid (HPX.out.below hb)
          replace HRBa := hid (HRBa.out.below hb)
          replace HRBb := hid (HRBb.out.below hb)
          clear hb 
          go_wp2_with fail
          (with_reducible refine (awake_any _).mono ?_)
          rintro e w99 ⟨rfl, hb⟩
          go_wp2_with fail
          go_ret
          exact ⟨rfl, H13.out.below.trans (hb.mono H13.out.below.size)⟩
end Go.Proofs.Ytaioobhblfnlaaa
