/- TreatyBounds: the bounds of what all treaties pay and keep, and of what the society keeps, are as the document says, or the error is: all truths are tried. For each programme. -/
import Derived.Test.YtaioobhblfnlaaaD6
import Derived.Test.YtaioobhblfnlaaaCX
namespace Go.Proofs.Ytaioobhblfnlaaa
open Go.RowKit


theorem err_ok {p : Prg} (h : errP p = 0) : OkP p ∧ possO p allT [] = true := by
  by_cases h0 : faultP p = 0
  · refine ⟨fault_iff.1 h0, ?_⟩
    rw [errP_ok h0] at h
    cases hp : possO p allT []
    · rw [hp] at h; simp at h
    · rfl
  · rw [errP_bad h0] at h; exact absurd h h0
theorem net_bad {p : Prg} (h : errP p ≠ 0) : (netP p).lo = 0 ∧ (netP p).hi = 0 := by
  by_cases h0 : faultP p = 0
  · rw [netP, if_pos h0]
    rw [errP_ok h0] at h
    cases hp : possO p allT []
    · rw [bnd_none hp]; exact ⟨rfl, rfl⟩
    · rw [hp] at h; simp at h
  · rw [netP, if_neg h0]; exact ⟨rfl, rfl⟩
theorem sum_bd : ∀ {rs : List Rng} {l : List Int}, listedB rs l = true → rs.length ≤ 4 → ∀ i, i < l.length → i < 4 := fun h h4 i hi => by have := listed_len h; omega
theorem pay_law {p : Prg} (ok : OkP p) {l : List Int} (h : listedB p.losses l = true) : PayOk p.ts l (payA p l) := pay_all ok.ots (listed_bd ok.loss h)
theorem keep_bd {p : Prg} (ok : OkP p) {l : List Int} (h : listedB p.losses l = true) (i : Nat) : 0 ≤ keepsF p.ts (payA p l).1 i ∧ keepsF p.ts (payA p l).1 i ≤ 4000 := by
  have a := (pay_law ok h).keeps i; have b := (pay_law ok h).keepsLe i; have c := pay_bd ok allT h i
  have d : (payA p l).1 i = (paysS p.ts allT l).1 i := rfl
  omega
theorem net_law {p : Prg} (h : errP p = 0) : netP p = netR p (truR p) := by
  obtain ⟨ok, hp⟩ := err_ok h
  rw [netP, if_pos (fault_iff.2 ok), bnd_law ok hp (fun a => a.2) (fun l hl => by have := kept_bd ok allT hl; show _ ≤ (paysS p.ts allT l).2 ∧ (paysS p.ts allT l).2 ≤ _; omega)]; rfl
theorem bnds_law {p : Prg} (h : errP p = 0) : bndsP p = bndsR p (truR p) := by
  obtain ⟨ok, hp⟩ := err_ok h
  rw [bndsP, if_pos h, bndsTo, bndsR]
  refine List.map_congr_left fun i _ => ?_
  rw [bndP, bndPays, bndKeeps, bnd_law ok hp (fun a => a.1 i) (fun l hl => by have := pay_bd ok allT hl i; show _ ≤ (paysS p.ts allT l).1 i ∧ (paysS p.ts allT l).1 i ≤ _; omega),
    bnd_law ok hp (fun a => keepsF p.ts a.1 i) (fun l hl => by have := keep_bd ok hl i; omega)]; rfl
theorem truR_len {p : Prg} (ok : OkP p) : (truR p).length ≤ 100000 := by
  unfold truR
  rw [List.length_map]
  refine Nat.le_trans (List.length_filter_le _ _) ?_
  rw [List.length_range]; have := ok.many; omega

set_option maxRecDepth 40000 in
set_option maxHeartbeats 16000000 in
theorem treatyBounds_any (p : Prg) (lp : Option Addr) (ln lc : Nat) (tp : Option Addr) (tn tc : Nat) (rp : Option Addr) (rn rc : Nat) (w : World) (hp : PrgAt w p lp ln tp tn rp rn) : Calls Try.prog 4 #[.agg #[.slice lp ln lc, .int .i64 p.reserve, .slice tp tn tc, .slice rp rn rc]] w fun e w' => e = .returned (.bool true) ∧ Below w.heap.size w w' := by
  have HSU := hid (fun W (hW : Below w.heap.size w W) => sure_any p lp ln lc tp tn tc rp rn rc W (hp.below hW))
  have HP := hid hp
  have HTH := hid (fun W (hW : Below w.heap.size w W) => thin_any p lp ln lc tp tn tc rp rn rc W (hp.below hW))
  have HFL := hid (fun W (hW : Below w.heap.size w W) => faultL_any p lp ln lc tp tn tc rp rn rc W (hp.below hW))
  have HRD := hid (fun W (hW : Below w.heap.size w W) => ready_any p lp ln lc tp tn tc rp rn rc W (hp.below hW))
  clear hp 
  have H0 : Hid (Boxed1 w #[.slice lp ln lc, .int .i64 p.reserve, .slice tp tn tc, .slice rp rn rc] 26 (w.alloc (.cells #[.slice lp ln lc, .int .i64 p.reserve, .slice tp tn tc, .slice rp rn rc] 26))) := hid (Boxed1.start _ _ _)
  go_enter Try.func4, Try.ntmps4
  have e0 := H0.out.cell 0 (v := .slice lp ln lc) rfl; have e1 := H0.out.cell 1 (v := .int .i64 p.reserve) rfl; have e2 := H0.out.cell 2 (v := .slice tp tn tc) rfl; have e3 := H0.out.cell 3 (v := .slice rp rn rc) rfl
  go_wp2_with fail
  (with_reducible refine (HTH.out _ ?_).mono ?_)
  · exact H0.out.below
  rintro e w1 ⟨rfl, hb⟩
  have H1 := hid (H0.out.step hb)
  clear e0 e1 e2 e3 hb 
  cases hth : thinB p
  · clear hth
    go_wp2_with fail
    (with_reducible refine (awake_any _).mono ?_)
    rintro e w99 ⟨rfl, hb⟩
    go_wp2_with fail
    go_ret
    exact ⟨rfl, H1.out.below.trans (hb.mono H1.out.below.size)⟩
  · have HT3 := hid (thin_len hth)
    have hln : ln ≤ 7 := by have := HP.out.l.1; have := HT3.out.1; omega
    have htn : tn ≤ 8 := by have := HP.out.t.1; have := HT3.out.2.1; omega
    have hrn : rn ≤ 8 := by have := HP.out.r.1; have := HT3.out.2.2; omega
    clear hth
    obtain ⟨ev, hev⟩ : ∃ v, errP p = v := ⟨_, rfl⟩
    have HEV := hid hev
    clear hev
    have e0 := H1.out.cell 0 (v := .slice lp ln lc) rfl; have e1 := H1.out.cell 1 (v := .int .i64 p.reserve) rfl; have e2 := H1.out.cell 2 (v := .slice tp tn tc) rfl; have e3 := H1.out.cell 3 (v := .slice rp rn rc) rfl
    go_wp2_with fail
    (with_reducible refine (prog_any p lp ln lc tp tn tc rp rn rc w1 (HP.out.below H1.out.below) (by omega) (by omega) (by omega)).mono ?_)
    rintro e w2 ⟨lq1, lc1, tq1, tc1, rq1, rc1, rfl, hpx, hcx, hb⟩
    have H2 := hid (H1.out.step hb)
    have HP1 := hid hpx; have HC1 := hid hcx
    clear e0 e1 e2 e3 hb hpx hcx
    go_wp2_with fail
    refine (bounds_any p lq1 ln lc1 tq1 tn tc1 rq1 rn rc1 w2 HP1.out).mono ?_
    rintro e w3 ⟨v, rfl, hown, hb⟩
    have H3 := hid (H2.out.step hb)
    replace HP1 := hid (HP1.out.below hb)
    obtain ⟨qb, db, rfl, hrb⟩ := hown.slice cellsB_len
    obtain ⟨mb, hmb⟩ : ∃ m, (bndsP p).length = m := ⟨_, rfl⟩
    have HMB := hid hmb
    rw [hmb] at hrb ⊢
    have HRB := hid hrb
    rw [HEV.out]
    clear hb hrb hown hmb
    have e0 := H3.out.cell 0 (v := .slice lp ln lc) rfl; have e1 := H3.out.cell 1 (v := .int .i64 p.reserve) rfl; have e2 := H3.out.cell 2 (v := .slice tp tn tc) rfl; have e3 := H3.out.cell 3 (v := .slice rp rn rc) rfl
    go_wp2_with fail
    (with_reducible refine (prog_any p lp ln lc tp tn tc rp rn rc w3 (HP.out.below H3.out.below) (by omega) (by omega) (by omega)).mono ?_)
    rintro e w4 ⟨lq2, lc2, tq2, tc2, rq2, rc2, rfl, hpx, hcx, hb⟩
    have H4 := hid (H3.out.step hb)
    replace HRB := hid (HRB.out.below hb)
    have HP2 := hid hpx; have HC2 := hid hcx
    clear e0 e1 e2 e3 hb hpx hcx
    go_wp2_with fail
    refine (net_any p lq2 ln lc2 tq2 tn tc2 rq2 rn rc2 w4 HP2.out).mono ?_
    rintro e w5 ⟨rfl, hb⟩
    have H5 := hid (H4.out.step hb)
    replace HRB := hid (HRB.out.below hb)
    replace HP2 := hid (HP2.out.below hb)
    clear hb 
    obtain ⟨R, hR⟩ : ∃ R, netP p = R := ⟨_, rfl⟩
    rw [hR, HEV.out]
    have HRR := hid hR
    clear hR
    go_upto_region 5 with fail
    obtain ⟨w6, hw6⟩ : ∃ V, w5.alloc (.cells #[.int .i64 R.lo, .int .i64 R.hi] 51) = V := ⟨_, rfl⟩
    rw [hw6]
    have hb : Below w5.heap.size w5 w6 := by rw [← hw6]; exact (Below.refl _ _).alloc (Nat.le_refl _) _
    have HX : Hid (BoxIs w5.heap.size #[.int .i64 R.lo, .int .i64 R.hi] w6) := hid (by rw [← hw6]; exact BoxIs.start _ _ _)
    clear hw6
    have H6 := hid (H5.out.step hb)
    replace HRB := hid (HRB.out.below hb)
    clear hb
    have e0 := H6.out.cell 0 (v := .slice lp ln lc) rfl; have e1 := H6.out.cell 1 (v := .int .i64 p.reserve) rfl; have e2 := H6.out.cell 2 (v := .slice tp tn tc) rfl; have e3 := H6.out.cell 3 (v := .slice rp rn rc) rfl
    go_wp2_with fail
    (with_reducible refine (HSU.out _ ?_).mono ?_)
    · exact H6.out.below
    rintro e w7 ⟨rfl, hb⟩
    have H7 := hid (H6.out.step hb)
    replace HRB := hid (HRB.out.below hb)
    replace HX := hid (HX.out.below hb)
    rw [HEV.out]
    clear e0 e1 e2 e3 hb 
    by_cases hE : ev = 0
    · subst hE
      have HOP := hid (err_ok HEV.out)
      have HOK := hid HOP.out.1
      have HNL := hid (net_law HEV.out)
      have htn5 : tn ≤ 5 := by have := HP.out.t.1; have := HOK.out.m5; omega
      have hbl := bnds_law HEV.out
      rw [hbl] at HRB
      have hmt : tn = mb := by rw [HRB.out.1, bndsR_len, HP.out.t.1]
      subst hmt
      have HTL := hid (truR_len HOK.out)
      have HLS := hid (fun l hl => ((mem_truR HOK.out (l := l)).1 hl).1)
      obtain ⟨NN, hNN⟩ : ∃ v, (truR p).length = v := ⟨_, rfl⟩
      rw [hNN] at HTL
      have HNN := hid hNN
      have HRE : Hid (netR p (truR p) = R) := hid (by rw [← HNL.out]; exact HRR.out)
      obtain ⟨BL, hBL⟩ : ∃ v, bndsR p (truR p) = v := ⟨_, rfl⟩
      rw [hBL] at HRB
      have HBL := hid hBL
      clear hbl hNN hBL HMB HNL
      skip
      go_upto_region 8 with fail
      go_cut [8, 9] from 11 (fun a8 a9 wr => ∃ q c b, a8 = .slice q tn c ∧ a9 = .pointer (some ⟨b, 0, none⟩) ∧ RowsAt cellsB 4 wr q tn BL ∧ BoxIs b #[.int .i64 R.lo, .int .i64 R.hi] wr ∧ Boxed1 w #[.slice lp ln lc, .int .i64 p.reserve, .slice tp tn tc, .slice rp rn rc] 26 wr ∧ Below w7.heap.size w7 wr)
      case first =>
        obtain ⟨wd, hwd⟩ : ∃ V, w7.drew = V := ⟨_, rfl⟩
        have HD := hid H7.out.drew
        rw [hwd] at HD
        have HWD : Hid (Below w7.heap.size w7 wd) := hid (by rw [← hwd]; exact (Below.refl _ _).drew)
        refine wp_region_held_drew (S := fun V => Boxed1 w #[.slice lp ln lc, .int .i64 p.reserve, .slice tp tn tc, .slice rp rn rc] 26 V ∧ Below wd.heap.size wd V) (by kernel_rfl) (by rw [hwd]; exact ⟨HD.out, Below.refl _ _⟩) (fun hS => ?_)
        rw [hwd] at hS ⊢
        clear hwd
        simp only [List.size_toArray, List.length_cons, List.length_nil, Nat.reduceAdd, Array.replicate_succ, Array.replicate_zero, List.push_toArray, List.nil_append, List.cons_append]
        refine tkH (i := 0) (v := ?_) (fun V hV => ?_) ?_
        rotate_left
        · have e0 := hV.1.cell 0 (v := .slice lp ln lc) rfl; have e1 := hV.1.cell 1 (v := .int .i64 p.reserve) rfl; have e2 := hV.1.cell 2 (v := .slice tp tn tc) rfl; have e3 := hV.1.cell 3 (v := .slice rp rn rc) rfl; go_simp
          try with_reducible rfl
        try simp only [Act.put, List.getElem_toArray, List.getElem_cons_zero, List.setIfInBounds_toArray, List.set_cons_zero, List.set_cons_succ]
        refine tkH (i := 1) (v := ?_) (fun V hV => ?_) ?_
        rotate_left
        · have e0 := hV.1.cell 0 (v := .slice lp ln lc) rfl; have e1 := hV.1.cell 1 (v := .int .i64 p.reserve) rfl; have e2 := hV.1.cell 2 (v := .slice tp tn tc) rfl; have e3 := hV.1.cell 3 (v := .slice rp rn rc) rfl; go_simp
          try with_reducible rfl
        try simp only [Act.put, List.getElem_toArray, List.getElem_cons_zero, List.getElem_cons_succ, List.setIfInBounds_toArray, List.set_cons_zero, List.set_cons_succ]
        refine wpAnyH_ready (rs := [2, 7]) (by kernel_rfl) (by simp) ?_
        refine AllReadyH.cons (o := _) rfl (fun K hK => ?_) ?_
        · skip
          go_simp
          (with_reducible refine (truthsR_any p lp ln lc tp tn tc rp rn rc _ (HP.out.below hS.1.below) HOK.out).mono ?_)
          rintro e v2 ⟨ql, cl, rfl, hls, hb⟩
          rw [HNN.out] at hls ⊢
          have HLT := hid hls
          clear hls
          refine hK.out _ _ (⟨hS.1.step hb, hS.2.trans (hb.mono hS.2.size)⟩) (fun hS => ?_)
          clear hK K
          try simp only [List.setIfInBounds_toArray, List.set_cons_zero, List.set_cons_succ]
          refine wpAnyH_ready (rs := [3, 7]) (by kernel_rfl) (by simp) ?_
          refine AllReadyH.cons (o := _) rfl (fun K hK => ?_) ?_
          · skip
            go_simp
            (with_reducible refine (boundsR_any p lp ln lc tp tn tc rp rn rc ql NN cl (truR p) _ (HP.out.below hS.1.below) HOK.out HLT.out HLS.out HTL.out).mono ?_)
            rintro e v3 ⟨qr, cr, rfl, hrr, hfar, hb⟩
            rw [HRE.out]
            rw [HBL.out] at hrr
            have HRQ := hid hrr; have HFA := hid hfar
            clear hrr hfar
            replace HLT := hid (HLT.out.below hb)
            refine hK.out _ _ (⟨hS.1.step hb, hS.2.trans (hb.mono hS.2.size)⟩) (fun hS => ?_)
            clear hK K
            try simp only [List.setIfInBounds_toArray, List.set_cons_zero, List.set_cons_succ]
            refine tkH (i := 4) (v := ?_) (fun V hV => ?_) ?_
            rotate_left
            · go_simp
              try with_reducible rfl
            try simp only [Act.put, List.getElem_toArray, List.getElem_cons_zero, List.getElem_cons_succ, List.setIfInBounds_toArray, List.set_cons_zero, List.set_cons_succ]
            refine tkH (i := 5) (v := ?_) (fun V hV => ?_) ?_
            rotate_left
            · go_simp
              try with_reducible rfl
            try simp only [Act.put, List.getElem_toArray, List.getElem_cons_zero, List.getElem_cons_succ, List.setIfInBounds_toArray, List.set_cons_zero, List.set_cons_succ]
            refine tkH (i := 6) (v := ?_) (fun V hV => ?_) ?_
            rotate_left
            · go_simp
              try with_reducible rfl
            try simp only [Act.put, List.getElem_toArray, List.getElem_cons_zero, List.getElem_cons_succ, List.setIfInBounds_toArray, List.set_cons_zero, List.set_cons_succ]
            refine wpAnyH_ready (rs := [7]) (by kernel_rfl) (by simp) ?_
            refine AllReadyH.cons (o := _) rfl (fun K hK => ?_) AllReadyH.nil
            have HLQ := hid (fun k hk => rows_lt HRQ.out (k := k) hk)
            obtain ⟨v7, hv7⟩ : ∃ V, v3.alloc (.cells #[.int .i64 0, .int .i64 0] 55) = V := ⟨_, rfl⟩
            have hb : Below v3.heap.size v3 v7 := by rw [← hv7]; exact (Below.refl _ _).alloc (Nat.le_refl _) _
            have HNX : Hid (BoxIs v3.heap.size #[.int .i64 0, .int .i64 0] v7) := hid (by rw [← hv7]; exact BoxIs.start _ _ _)
            have HLHNX : Hid (wd.heap.size ≤ v3.heap.size) := hid hS.2.size
            replace HRQ := hid (HRQ.out.below hb)
            have HS3 := hid (show Boxed1 w #[.slice lp ln lc, .int .i64 p.reserve, .slice tp tn tc, .slice rp rn rc] 26 v7 ∧ Below wd.heap.size wd v7 from ⟨hS.1.step hb, hS.2.trans (hb.mono hS.2.size)⟩)
            clear hS hb
            go_simp
            clear hv7
            refine hK.out _ _ (HS3.out) (fun hS => ?_)
            clear hK K
            try simp only [List.setIfInBounds_toArray, List.set_cons_zero, List.set_cons_succ]
            refine tkH (i := 8) (v := ?_) (fun V hV => ?_) ?_
            rotate_left
            · go_simp
              try with_reducible rfl
            try simp only [Act.put, List.getElem_toArray, List.getElem_cons_zero, List.getElem_cons_succ, List.setIfInBounds_toArray, List.set_cons_zero, List.set_cons_succ]
            refine wpAnyH_ready (rs := [9]) (by kernel_rfl) (by simp) ?_
            refine AllReadyH.cons (o := _) rfl (fun K hK => ?_) AllReadyH.nil
            have k0 := (HNX.out.2 0 (.int .i64 0) rfl).1; have f0 := (HNX.out.2 0 (.int .i64 0) rfl).2
            have k1 := (HNX.out.2 1 (.int .i64 0) rfl).1; have f1 := (HNX.out.2 1 (.int .i64 0) rfl).2
            have HP : Hid (BoxIs v3.heap.size #[.int .i64 R.lo, .int .i64 R.hi] ((v7.setCell ⟨v3.heap.size, 0, none⟩ (.int .i64 R.lo)).setCell ⟨v3.heap.size, 1, none⟩ (.int .i64 R.hi))) := hid ((HNX.out.put (j := 0) (.int .i64 R.lo)).put (j := 1) (.int .i64 R.hi))
            have HNQ := hid (((Near.refl (fun i => i = v3.heap.size) v7).setCell (p := ⟨v3.heap.size, 0, none⟩) (fun _ => rfl) (.int .i64 R.lo)).setCell (p := ⟨v3.heap.size, 1, none⟩) (fun _ => rfl) (.int .i64 R.hi))
            have HSW := hid (hS.1.step' ((((Below.refl wd.heap.size v7).setCell (p := ⟨v3.heap.size, 0, none⟩) HLHNX.out (.int .i64 R.lo)).setCell (p := ⟨v3.heap.size, 1, none⟩) HLHNX.out (.int .i64 R.hi)).mono HD.out.size))
            have HSB := hid (hS.2.trans (((Below.refl wd.heap.size v7).setCell (p := ⟨v3.heap.size, 0, none⟩) HLHNX.out (.int .i64 R.lo)).setCell (p := ⟨v3.heap.size, 1, none⟩) HLHNX.out (.int .i64 R.hi)))
            replace HRQ := hid (HRQ.out.kept HNQ.out.size (fun a ha h0 hlt => HNQ.out.block _ hlt (by have := HLQ.out _ ⟨a, ha, h0, rfl⟩; omega)))
            clear hS
            go_simp
            clear k0 f0 k1 f1
            generalize ((v7.setCell ⟨v3.heap.size, 0, none⟩ (.int .i64 R.lo)).setCell ⟨v3.heap.size, 1, none⟩ (.int .i64 R.hi)) = v9 at HP HSW HSB HNQ HRQ  ⊢
            replace HNX := HP
            clear HNQ
            refine hK.out _ _ (⟨HSW.out, HSB.out⟩) (fun hS => ?_)
            clear hK K
            try simp only [List.setIfInBounds_toArray, List.set_cons_zero, List.set_cons_succ]
            refine wpAnyH_done (by kernel_rfl) ?_ _
            go_wp2
            go_meet
            case rel => exact ⟨_, _, _, rfl, rfl, HRQ.out, HNX.out, hS.1, HWD.out.trans (hS.2.mono HWD.out.size)⟩
          refine AllReadyH.cons (o := _) rfl (fun K hK => ?_) AllReadyH.nil
          obtain ⟨v7, hv7⟩ : ∃ V, v2.alloc (.cells #[.int .i64 0, .int .i64 0] 55) = V := ⟨_, rfl⟩
          have hb : Below v2.heap.size v2 v7 := by rw [← hv7]; exact (Below.refl _ _).alloc (Nat.le_refl _) _
          have HNX : Hid (BoxIs v2.heap.size #[.int .i64 0, .int .i64 0] v7) := hid (by rw [← hv7]; exact BoxIs.start _ _ _)
          have HLHNX : Hid (wd.heap.size ≤ v2.heap.size) := hid hS.2.size
          replace HLT := hid (HLT.out.below hb)
          have HS3 := hid (show Boxed1 w #[.slice lp ln lc, .int .i64 p.reserve, .slice tp tn tc, .slice rp rn rc] 26 v7 ∧ Below wd.heap.size wd v7 from ⟨hS.1.step hb, hS.2.trans (hb.mono hS.2.size)⟩)
          clear hS hb
          go_simp
          clear hv7
          refine hK.out _ _ (HS3.out) (fun hS => ?_)
          clear hK K
          try simp only [List.setIfInBounds_toArray, List.set_cons_zero, List.set_cons_succ]
          refine wpAnyH_ready (rs := [3]) (by kernel_rfl) (by simp) ?_
          refine AllReadyH.cons (o := _) rfl (fun K hK => ?_) AllReadyH.nil
          have HNB := hid HNX.out.1
          go_simp
          (with_reducible refine (boundsR_any p lp ln lc tp tn tc rp rn rc ql NN cl (truR p) _ (HP.out.below hS.1.below) HOK.out HLT.out HLS.out HTL.out).mono ?_)
          rintro e v3 ⟨qr, cr, rfl, hrr, hfar, hb⟩
          rw [HRE.out]
          rw [HBL.out] at hrr
          have HRQ := hid hrr; have HFA := hid hfar
          clear hrr hfar
          replace HNX := hid (HNX.out.below hb)
          replace HLT := hid (HLT.out.below hb)
          refine hK.out _ _ (⟨hS.1.step hb, hS.2.trans (hb.mono hS.2.size)⟩) (fun hS => ?_)
          clear hK K
          try simp only [List.setIfInBounds_toArray, List.set_cons_zero, List.set_cons_succ]
          refine tkH (i := 4) (v := ?_) (fun V hV => ?_) ?_
          rotate_left
          · go_simp
            try with_reducible rfl
          try simp only [Act.put, List.getElem_toArray, List.getElem_cons_zero, List.getElem_cons_succ, List.setIfInBounds_toArray, List.set_cons_zero, List.set_cons_succ]
          refine tkH (i := 5) (v := ?_) (fun V hV => ?_) ?_
          rotate_left
          · go_simp
            try with_reducible rfl
          try simp only [Act.put, List.getElem_toArray, List.getElem_cons_zero, List.getElem_cons_succ, List.setIfInBounds_toArray, List.set_cons_zero, List.set_cons_succ]
          refine tkH (i := 6) (v := ?_) (fun V hV => ?_) ?_
          rotate_left
          · go_simp
            try with_reducible rfl
          try simp only [Act.put, List.getElem_toArray, List.getElem_cons_zero, List.getElem_cons_succ, List.setIfInBounds_toArray, List.set_cons_zero, List.set_cons_succ]
          refine tkH (i := 8) (v := ?_) (fun V hV => ?_) ?_
          rotate_left
          · go_simp
            try with_reducible rfl
          try simp only [Act.put, List.getElem_toArray, List.getElem_cons_zero, List.getElem_cons_succ, List.setIfInBounds_toArray, List.set_cons_zero, List.set_cons_succ]
          refine wpAnyH_ready (rs := [9]) (by kernel_rfl) (by simp) ?_
          refine AllReadyH.cons (o := _) rfl (fun K hK => ?_) AllReadyH.nil
          have k0 := (HNX.out.2 0 (.int .i64 0) rfl).1; have f0 := (HNX.out.2 0 (.int .i64 0) rfl).2
          have k1 := (HNX.out.2 1 (.int .i64 0) rfl).1; have f1 := (HNX.out.2 1 (.int .i64 0) rfl).2
          have HP : Hid (BoxIs v2.heap.size #[.int .i64 R.lo, .int .i64 R.hi] ((v3.setCell ⟨v2.heap.size, 0, none⟩ (.int .i64 R.lo)).setCell ⟨v2.heap.size, 1, none⟩ (.int .i64 R.hi))) := hid ((HNX.out.put (j := 0) (.int .i64 R.lo)).put (j := 1) (.int .i64 R.hi))
          have HNQ := hid (((Near.refl (fun i => i = v2.heap.size) v3).setCell (p := ⟨v2.heap.size, 0, none⟩) (fun _ => rfl) (.int .i64 R.lo)).setCell (p := ⟨v2.heap.size, 1, none⟩) (fun _ => rfl) (.int .i64 R.hi))
          have HSW := hid (hS.1.step' ((((Below.refl wd.heap.size v3).setCell (p := ⟨v2.heap.size, 0, none⟩) HLHNX.out (.int .i64 R.lo)).setCell (p := ⟨v2.heap.size, 1, none⟩) HLHNX.out (.int .i64 R.hi)).mono HD.out.size))
          have HSB := hid (hS.2.trans (((Below.refl wd.heap.size v3).setCell (p := ⟨v2.heap.size, 0, none⟩) HLHNX.out (.int .i64 R.lo)).setCell (p := ⟨v2.heap.size, 1, none⟩) HLHNX.out (.int .i64 R.hi)))
          replace HRQ := hid (HRQ.out.kept HNQ.out.size (fun a ha h0 hlt => HNQ.out.block _ hlt (by have := HFA.out a ha h0; have := HNB.out; omega)))
          clear hS
          go_simp
          clear k0 f0 k1 f1
          generalize ((v3.setCell ⟨v2.heap.size, 0, none⟩ (.int .i64 R.lo)).setCell ⟨v2.heap.size, 1, none⟩ (.int .i64 R.hi)) = v9 at HP HSW HSB HNQ HRQ  ⊢
          replace HNX := HP
          clear HNQ
          refine hK.out _ _ (⟨HSW.out, HSB.out⟩) (fun hS => ?_)
          clear hK K
          try simp only [List.setIfInBounds_toArray, List.set_cons_zero, List.set_cons_succ]
          refine wpAnyH_done (by kernel_rfl) ?_ _
          go_wp2
          go_meet
          case rel => exact ⟨_, _, _, rfl, rfl, HRQ.out, HNX.out, hS.1, HWD.out.trans (hS.2.mono HWD.out.size)⟩
        refine AllReadyH.cons (o := _) rfl (fun K hK => ?_) AllReadyH.nil
        obtain ⟨v7, hv7⟩ : ∃ V, wd.alloc (.cells #[.int .i64 0, .int .i64 0] 55) = V := ⟨_, rfl⟩
        have hb : Below wd.heap.size wd v7 := by rw [← hv7]; exact (Below.refl _ _).alloc (Nat.le_refl _) _
        have HNX : Hid (BoxIs wd.heap.size #[.int .i64 0, .int .i64 0] v7) := hid (by rw [← hv7]; exact BoxIs.start _ _ _)
        have HLHNX : Hid (wd.heap.size ≤ wd.heap.size) := hid hS.2.size
        have HS3 := hid (show Boxed1 w #[.slice lp ln lc, .int .i64 p.reserve, .slice tp tn tc, .slice rp rn rc] 26 v7 ∧ Below wd.heap.size wd v7 from ⟨hS.1.step hb, hS.2.trans (hb.mono hS.2.size)⟩)
        clear hS hb
        go_simp
        clear hv7
        refine hK.out _ _ (HS3.out) (fun hS => ?_)
        clear hK K
        try simp only [List.setIfInBounds_toArray, List.set_cons_zero, List.set_cons_succ]
        refine wpAnyH_ready (rs := [2]) (by kernel_rfl) (by simp) ?_
        refine AllReadyH.cons (o := _) rfl (fun K hK => ?_) AllReadyH.nil
        go_simp
        (with_reducible refine (truthsR_any p lp ln lc tp tn tc rp rn rc _ (HP.out.below hS.1.below) HOK.out).mono ?_)
        rintro e v2 ⟨ql, cl, rfl, hls, hb⟩
        rw [HNN.out] at hls ⊢
        have HLT := hid hls
        clear hls
        replace HNX := hid (HNX.out.below hb)
        refine hK.out _ _ (⟨hS.1.step hb, hS.2.trans (hb.mono hS.2.size)⟩) (fun hS => ?_)
        clear hK K
        try simp only [List.setIfInBounds_toArray, List.set_cons_zero, List.set_cons_succ]
        refine wpAnyH_ready (rs := [3]) (by kernel_rfl) (by simp) ?_
        refine AllReadyH.cons (o := _) rfl (fun K hK => ?_) AllReadyH.nil
        have HNB := hid HNX.out.1
        go_simp
        (with_reducible refine (boundsR_any p lp ln lc tp tn tc rp rn rc ql NN cl (truR p) _ (HP.out.below hS.1.below) HOK.out HLT.out HLS.out HTL.out).mono ?_)
        rintro e v3 ⟨qr, cr, rfl, hrr, hfar, hb⟩
        rw [HRE.out]
        rw [HBL.out] at hrr
        have HRQ := hid hrr; have HFA := hid hfar
        clear hrr hfar
        replace HNX := hid (HNX.out.below hb)
        replace HLT := hid (HLT.out.below hb)
        refine hK.out _ _ (⟨hS.1.step hb, hS.2.trans (hb.mono hS.2.size)⟩) (fun hS => ?_)
        clear hK K
        try simp only [List.setIfInBounds_toArray, List.set_cons_zero, List.set_cons_succ]
        refine tkH (i := 4) (v := ?_) (fun V hV => ?_) ?_
        rotate_left
        · go_simp
          try with_reducible rfl
        try simp only [Act.put, List.getElem_toArray, List.getElem_cons_zero, List.getElem_cons_succ, List.setIfInBounds_toArray, List.set_cons_zero, List.set_cons_succ]
        refine tkH (i := 5) (v := ?_) (fun V hV => ?_) ?_
        rotate_left
        · go_simp
          try with_reducible rfl
        try simp only [Act.put, List.getElem_toArray, List.getElem_cons_zero, List.getElem_cons_succ, List.setIfInBounds_toArray, List.set_cons_zero, List.set_cons_succ]
        refine tkH (i := 6) (v := ?_) (fun V hV => ?_) ?_
        rotate_left
        · go_simp
          try with_reducible rfl
        try simp only [Act.put, List.getElem_toArray, List.getElem_cons_zero, List.getElem_cons_succ, List.setIfInBounds_toArray, List.set_cons_zero, List.set_cons_succ]
        refine tkH (i := 8) (v := ?_) (fun V hV => ?_) ?_
        rotate_left
        · go_simp
          try with_reducible rfl
        try simp only [Act.put, List.getElem_toArray, List.getElem_cons_zero, List.getElem_cons_succ, List.setIfInBounds_toArray, List.set_cons_zero, List.set_cons_succ]
        refine wpAnyH_ready (rs := [9]) (by kernel_rfl) (by simp) ?_
        refine AllReadyH.cons (o := _) rfl (fun K hK => ?_) AllReadyH.nil
        have k0 := (HNX.out.2 0 (.int .i64 0) rfl).1; have f0 := (HNX.out.2 0 (.int .i64 0) rfl).2
        have k1 := (HNX.out.2 1 (.int .i64 0) rfl).1; have f1 := (HNX.out.2 1 (.int .i64 0) rfl).2
        have HP : Hid (BoxIs wd.heap.size #[.int .i64 R.lo, .int .i64 R.hi] ((v3.setCell ⟨wd.heap.size, 0, none⟩ (.int .i64 R.lo)).setCell ⟨wd.heap.size, 1, none⟩ (.int .i64 R.hi))) := hid ((HNX.out.put (j := 0) (.int .i64 R.lo)).put (j := 1) (.int .i64 R.hi))
        have HNQ := hid (((Near.refl (fun i => i = wd.heap.size) v3).setCell (p := ⟨wd.heap.size, 0, none⟩) (fun _ => rfl) (.int .i64 R.lo)).setCell (p := ⟨wd.heap.size, 1, none⟩) (fun _ => rfl) (.int .i64 R.hi))
        have HSW := hid (hS.1.step' ((((Below.refl wd.heap.size v3).setCell (p := ⟨wd.heap.size, 0, none⟩) HLHNX.out (.int .i64 R.lo)).setCell (p := ⟨wd.heap.size, 1, none⟩) HLHNX.out (.int .i64 R.hi)).mono HD.out.size))
        have HSB := hid (hS.2.trans (((Below.refl wd.heap.size v3).setCell (p := ⟨wd.heap.size, 0, none⟩) HLHNX.out (.int .i64 R.lo)).setCell (p := ⟨wd.heap.size, 1, none⟩) HLHNX.out (.int .i64 R.hi)))
        replace HRQ := hid (HRQ.out.kept HNQ.out.size (fun a ha h0 hlt => HNQ.out.block _ hlt (by have := HFA.out a ha h0; have := HNB.out; omega)))
        clear hS
        go_simp
        clear k0 f0 k1 f1
        generalize ((v3.setCell ⟨wd.heap.size, 0, none⟩ (.int .i64 R.lo)).setCell ⟨wd.heap.size, 1, none⟩ (.int .i64 R.hi)) = v9 at HP HSW HSB HNQ HRQ  ⊢
        replace HNX := HP
        clear HNQ
        refine hK.out _ _ (⟨HSW.out, HSB.out⟩) (fun hS => ?_)
        clear hK K
        try simp only [List.setIfInBounds_toArray, List.set_cons_zero, List.set_cons_succ]
        refine wpAnyH_done (by kernel_rfl) ?_ _
        go_wp2
        go_meet
        case rel => exact ⟨_, _, _, rfl, rfl, HRQ.out, HNX.out, hS.1, HWD.out.trans (hS.2.mono HWD.out.size)⟩
      case rest =>
        obtain ⟨qr, cr, bn, rfl, rfl, hrq, hnx, hbx, hbw⟩ := hcut
        have HRQ := hid hrq; have HNX := hid hnx; have H8 := hid hbx; replace HX := hid (HX.out.below hbw); replace HRB := hid (HRB.out.below hbw)
        clear hrq hnx hbx hbw
        generalize wc = w8 at HRQ HNX H8 HX HRB ⊢
        go_upto_region 9 with fail
        refine wp_region_held_drew (S := fun V => Boxed1 w #[.slice lp ln lc, .int .i64 p.reserve, .slice tp tn tc, .slice rp rn rc] 26 V ∧ Below w8.heap.size w8 V) (by kernel_rfl) (⟨H8.out.drew, (Below.refl _ _).drew⟩) (fun hS => ?_)
        simp only [List.size_toArray, List.length_cons, List.length_nil, Nat.reduceAdd, Array.replicate_succ, Array.replicate_zero, List.push_toArray, List.nil_append, List.cons_append]
        refine tkH (i := 0) (v := ?_) (fun V hV => ?_) ?_
        rotate_left
        · go_simp
          try with_reducible rfl
        try simp only [Act.put, List.getElem_toArray, List.getElem_cons_zero, List.setIfInBounds_toArray, List.set_cons_zero, List.set_cons_succ]
        refine tkH (i := 1) (v := ?_) (fun V hV => ?_) ?_
        rotate_left
        · go_simp
          try with_reducible rfl
        try simp only [Act.put, List.getElem_toArray, List.getElem_cons_zero, List.getElem_cons_succ, List.setIfInBounds_toArray, List.set_cons_zero, List.set_cons_succ]
        refine tkH (i := 2) (v := ?_) (fun V hV => ?_) ?_
        rotate_left
        · go_simp
          try with_reducible rfl
        try simp only [Act.put, List.getElem_toArray, List.getElem_cons_zero, List.getElem_cons_succ, List.setIfInBounds_toArray, List.set_cons_zero, List.set_cons_succ]
        refine tkH (i := 3) (v := ?_) (fun V hV => ?_) ?_
        rotate_left
        · go_simp
          try with_reducible rfl
        try simp only [Act.put, List.getElem_toArray, List.getElem_cons_zero, List.getElem_cons_succ, List.setIfInBounds_toArray, List.set_cons_zero, List.set_cons_succ]
        refine tkH (i := 4) (v := ?_) (fun V hV => ?_) ?_
        rotate_left
        · go_simp
          try with_reducible rfl
        try simp only [Act.put, List.getElem_toArray, List.getElem_cons_zero, List.getElem_cons_succ, List.setIfInBounds_toArray, List.set_cons_zero, List.set_cons_succ]
        refine tkH (i := 5) (v := ?_) (fun V hV => ?_) ?_
        rotate_left
        · go_simp
          try with_reducible rfl
        try simp only [Act.put, List.getElem_toArray, List.getElem_cons_zero, List.getElem_cons_succ, List.setIfInBounds_toArray, List.set_cons_zero, List.set_cons_succ]
        refine tkH (i := 6) (v := ?_) (fun V hV => ?_) ?_
        rotate_left
        · go_simp
          try with_reducible rfl
        try simp only [Act.put, List.getElem_toArray, List.getElem_cons_zero, List.getElem_cons_succ, List.setIfInBounds_toArray, List.set_cons_zero, List.set_cons_succ]
        refine tkH (i := 7) (v := ?_) (fun V hV => ?_) ?_
        rotate_left
        · have hX := HX.out.below hV.2; have x0 := (hX.2 0 (.int .i64 R.lo) rfl).1; have x1 := (hX.2 1 (.int .i64 R.hi) rfl).1; go_simp
          try with_reducible rfl
        try simp only [Act.put, List.getElem_toArray, List.getElem_cons_zero, List.getElem_cons_succ, List.setIfInBounds_toArray, List.set_cons_zero, List.set_cons_succ]
        refine tkH (i := 8) (v := ?_) (fun V hV => ?_) ?_
        rotate_left
        · have hX := HNX.out.below hV.2; have x0 := (hX.2 0 (.int .i64 R.lo) rfl).1; have x1 := (hX.2 1 (.int .i64 R.hi) rfl).1; go_simp
          try with_reducible rfl
        try simp only [Act.put, List.getElem_toArray, List.getElem_cons_zero, List.getElem_cons_succ, List.setIfInBounds_toArray, List.set_cons_zero, List.set_cons_succ]
        refine wpAnyH_ready (rs := [9]) (by kernel_rfl) (by simp) ?_
        refine AllReadyH.cons (o := _) rfl (fun K hK => ?_) AllReadyH.nil
        go_simp
        (with_reducible refine (to_any R _).mono ?_)
        rintro e v9 ⟨rfl, hb⟩
        refine hK.out _ _ (⟨hS.1.step hb, hS.2.trans (hb.mono hS.2.size)⟩) (fun hS => ?_)
        clear hK K
        try simp only [List.setIfInBounds_toArray, List.set_cons_zero, List.set_cons_succ]
        refine tkH (i := 10) (v := ?_) (fun V hV => ?_) ?_
        rotate_left
        · go_simp
          try with_reducible rfl
        try simp only [Act.put, List.getElem_toArray, List.getElem_cons_zero, List.getElem_cons_succ, List.setIfInBounds_toArray, List.set_cons_zero, List.set_cons_succ]
        refine tkH (i := 11) (v := ?_) (fun V hV => ?_) ?_
        rotate_left
        · go_simp
          try with_reducible rfl
        try simp only [Act.put, List.getElem_toArray, List.getElem_cons_zero, List.getElem_cons_succ, List.setIfInBounds_toArray, List.set_cons_zero, List.set_cons_succ]
        refine tkH (i := 12) (v := ?_) (fun V hV => ?_) ?_
        rotate_left
        · go_simp
          try with_reducible rfl
        try simp only [Act.put, List.getElem_toArray, List.getElem_cons_zero, List.getElem_cons_succ, List.setIfInBounds_toArray, List.set_cons_zero, List.set_cons_succ]
        refine tkH (i := 13) (v := ?_) (fun V hV => ?_) ?_
        rotate_left
        · go_simp
          try with_reducible rfl
        try simp only [Act.put, List.getElem_toArray, List.getElem_cons_zero, List.getElem_cons_succ, List.setIfInBounds_toArray, List.set_cons_zero, List.set_cons_succ]
        refine tkH (i := 14) (v := ?_) (fun V hV => ?_) ?_
        rotate_left
        · go_simp
          try with_reducible rfl
        try simp only [Act.put, List.getElem_toArray, List.getElem_cons_zero, List.getElem_cons_succ, List.setIfInBounds_toArray, List.set_cons_zero, List.set_cons_succ]
        refine tkH (i := 15) (v := ?_) (fun V hV => ?_) ?_
        rotate_left
        · go_simp
          try with_reducible rfl
        try simp only [Act.put, List.getElem_toArray, List.getElem_cons_zero, List.getElem_cons_succ, List.setIfInBounds_toArray, List.set_cons_zero, List.set_cons_succ]
        refine tkH (i := 16) (v := ?_) (fun V hV => ?_) ?_
        rotate_left
        · go_simp
          try with_reducible rfl
        try simp only [Act.put, List.getElem_toArray, List.getElem_cons_zero, List.getElem_cons_succ, List.setIfInBounds_toArray, List.set_cons_zero, List.set_cons_succ]
        refine tkH (i := 17) (v := ?_) (fun V hV => ?_) ?_
        rotate_left
        · go_simp
          try with_reducible rfl
        try simp only [Act.put, List.getElem_toArray, List.getElem_cons_zero, List.getElem_cons_succ, List.setIfInBounds_toArray, List.set_cons_zero, List.set_cons_succ]
        refine tkH (i := 18) (v := ?_) (fun V hV => ?_) ?_
        rotate_left
        · go_simp
          try with_reducible rfl
        try simp only [Act.put, List.getElem_toArray, List.getElem_cons_zero, List.getElem_cons_succ, List.setIfInBounds_toArray, List.set_cons_zero, List.set_cons_succ]
        refine wpAnyH_done (by kernel_rfl) ?_ _
        have H9 := hid hS.1; replace HRQ := hid (HRQ.out.below hS.2); replace HRB := hid (HRB.out.below hS.2)
        clear hS
        go_wp2_with fail
        go_loopw [10] (fun i wr => ∃ j : Nat, j ≤ tn ∧ i = .int .i64 j ∧ Below v9.heap.size v9 wr) (fun i _ => tn - (intOf i).toNat)
        case atStart => exact ⟨0, by omega, rfl, Below.refl _ _⟩
        case round =>
          obtain ⟨j, hj, rfl, hbw⟩ := hrel
          have HBW := hid hbw
          clear hbw
          by_cases hlt : j < tn
          · skip
            obtain ⟨r, hr, b1, o1, rfl, hlt1, hc1⟩ := (HRB.out.below HBW.out).at hlt
            obtain ⟨r9, hr9, b2, o2, rfl, hlt2, hc2⟩ := (HRQ.out.below HBW.out).at hlt
            rw [hr] at hr9
            cases hr9
            obtain ⟨r1, r2⟩ := r
            have HC1 : Hid (∀ V, Below wr.heap.size wr V → ∀ i v, (cellsB (r1, r2))[i]? = some v → V.cell? ⟨b1, o1 + j * 4 + i, none⟩ = some v) := hid (fun V hV i v hi => (hV.cell (p := ⟨b1, _, none⟩) hlt1).trans (hc1 i v hi))
            have HC2 : Hid (∀ V, Below wr.heap.size wr V → ∀ i v, (cellsB (r1, r2))[i]? = some v → V.cell? ⟨b2, o2 + j * 4 + i, none⟩ = some v) := hid (fun V hV i v hi => (hV.cell (p := ⟨b2, _, none⟩) hlt2).trans (hc2 i v hi))
            clear hr hc1 hc2 hlt1 hlt2
            have hw9 : IntKind.i64.wrap ((j : Int) + 1) = (j : Int) + 1 := IntWalk.i64_in _ (by omega)
            go_upto_region 14 with fail
            refine wp_region_held_drew (S := fun V => Below wr.heap.size wr V) (by kernel_rfl) ((Below.refl _ _).drew) (fun hS => ?_)
            simp only [List.size_toArray, List.length_cons, List.length_nil, Nat.reduceAdd, Array.replicate_succ, Array.replicate_zero, List.push_toArray, List.nil_append, List.cons_append]
            refine tkH (i := 0) (v := ?_) (fun V hV => ?_) ?_
            rotate_left
            · go_simp
              try with_reducible rfl
            try simp only [Act.put, List.getElem_toArray, List.getElem_cons_zero, List.setIfInBounds_toArray, List.set_cons_zero, List.set_cons_succ]
            refine tkH (i := 1) (v := ?_) (fun V hV => ?_) ?_
            rotate_left
            · go_simp
              try with_reducible rfl
            try simp only [Act.put, List.getElem_toArray, List.getElem_cons_zero, List.getElem_cons_succ, List.setIfInBounds_toArray, List.set_cons_zero, List.set_cons_succ]
            refine tkH (i := 2) (v := ?_) (fun V hV => ?_) ?_
            rotate_left
            · go_simp
              try with_reducible rfl
            try simp only [Act.put, List.getElem_toArray, List.getElem_cons_zero, List.getElem_cons_succ, List.setIfInBounds_toArray, List.set_cons_zero, List.set_cons_succ]
            refine tkH (i := 3) (v := ?_) (fun V hV => ?_) ?_
            rotate_left
            · go_simp
              try with_reducible rfl
            try simp only [Act.put, List.getElem_toArray, List.getElem_cons_zero, List.getElem_cons_succ, List.setIfInBounds_toArray, List.set_cons_zero, List.set_cons_succ]
            refine tkH (i := 4) (v := ?_) (fun V hV => ?_) ?_
            rotate_left
            · have d0 := HC1.out V hV 0 _ rfl; have d1 := HC1.out V hV 1 _ rfl; rw [Nat.add_zero] at d0; go_simp
              try with_reducible rfl
            try simp only [Act.put, List.getElem_toArray, List.getElem_cons_zero, List.getElem_cons_succ, List.setIfInBounds_toArray, List.set_cons_zero, List.set_cons_succ]
            refine tkH (i := 5) (v := ?_) (fun V hV => ?_) ?_
            rotate_left
            · go_simp
              try with_reducible rfl
            try simp only [Act.put, List.getElem_toArray, List.getElem_cons_zero, List.getElem_cons_succ, List.setIfInBounds_toArray, List.set_cons_zero, List.set_cons_succ]
            refine tkH (i := 6) (v := ?_) (fun V hV => ?_) ?_
            rotate_left
            · go_simp
              try with_reducible rfl
            try simp only [Act.put, List.getElem_toArray, List.getElem_cons_zero, List.getElem_cons_succ, List.setIfInBounds_toArray, List.set_cons_zero, List.set_cons_succ]
            refine tkH (i := 7) (v := ?_) (fun V hV => ?_) ?_
            rotate_left
            · go_simp
              try with_reducible rfl
            try simp only [Act.put, List.getElem_toArray, List.getElem_cons_zero, List.getElem_cons_succ, List.setIfInBounds_toArray, List.set_cons_zero, List.set_cons_succ]
            refine tkH (i := 8) (v := ?_) (fun V hV => ?_) ?_
            rotate_left
            · go_simp
              try with_reducible rfl
            try simp only [Act.put, List.getElem_toArray, List.getElem_cons_zero, List.getElem_cons_succ, List.setIfInBounds_toArray, List.set_cons_zero, List.set_cons_succ]
            refine tkH (i := 9) (v := ?_) (fun V hV => ?_) ?_
            rotate_left
            · have d0 := HC2.out V hV 0 _ rfl; have d1 := HC2.out V hV 1 _ rfl; rw [Nat.add_zero] at d0; go_simp
              try with_reducible rfl
            try simp only [Act.put, List.getElem_toArray, List.getElem_cons_zero, List.getElem_cons_succ, List.setIfInBounds_toArray, List.set_cons_zero, List.set_cons_succ]
            refine wpAnyH_ready (rs := [10]) (by kernel_rfl) (by simp) ?_
            refine AllReadyH.cons (o := _) rfl (fun K hK => ?_) AllReadyH.nil
            go_simp
            (with_reducible refine (to_any r1 _).mono ?_)
            rintro e v10 ⟨rfl, hb⟩
            refine hK.out _ _ (hS.trans (hb.mono hS.size)) (fun hS => ?_)
            clear hK K
            try simp only [List.setIfInBounds_toArray, List.set_cons_zero, List.set_cons_succ]
            refine tkH (i := 11) (v := ?_) (fun V hV => ?_) ?_
            rotate_left
            · go_simp
              try with_reducible rfl
            try simp only [Act.put, List.getElem_toArray, List.getElem_cons_zero, List.getElem_cons_succ, List.setIfInBounds_toArray, List.set_cons_zero, List.set_cons_succ]
            refine tkH (i := 12) (v := ?_) (fun V hV => ?_) ?_
            rotate_left
            · go_simp
              try with_reducible rfl
            try simp only [Act.put, List.getElem_toArray, List.getElem_cons_zero, List.getElem_cons_succ, List.setIfInBounds_toArray, List.set_cons_zero, List.set_cons_succ]
            refine tkH (i := 13) (v := ?_) (fun V hV => ?_) ?_
            rotate_left
            · go_simp
              try with_reducible rfl
            try simp only [Act.put, List.getElem_toArray, List.getElem_cons_zero, List.getElem_cons_succ, List.setIfInBounds_toArray, List.set_cons_zero, List.set_cons_succ]
            refine tkH (i := 14) (v := ?_) (fun V hV => ?_) ?_
            rotate_left
            · go_simp
              try with_reducible rfl
            try simp only [Act.put, List.getElem_toArray, List.getElem_cons_zero, List.getElem_cons_succ, List.setIfInBounds_toArray, List.set_cons_zero, List.set_cons_succ]
            refine tkH (i := 15) (v := ?_) (fun V hV => ?_) ?_
            rotate_left
            · go_simp
              try with_reducible rfl
            try simp only [Act.put, List.getElem_toArray, List.getElem_cons_zero, List.getElem_cons_succ, List.setIfInBounds_toArray, List.set_cons_zero, List.set_cons_succ]
            refine tkH (i := 16) (v := ?_) (fun V hV => ?_) ?_
            rotate_left
            · go_simp
              try with_reducible rfl
            try simp only [Act.put, List.getElem_toArray, List.getElem_cons_zero, List.getElem_cons_succ, List.setIfInBounds_toArray, List.set_cons_zero, List.set_cons_succ]
            refine tkH (i := 17) (v := ?_) (fun V hV => ?_) ?_
            rotate_left
            · have d2 := HC1.out V hV 2 _ rfl; have d3 := HC1.out V hV 3 _ rfl; go_simp
              try with_reducible rfl
            try simp only [Act.put, List.getElem_toArray, List.getElem_cons_zero, List.getElem_cons_succ, List.setIfInBounds_toArray, List.set_cons_zero, List.set_cons_succ]
            refine tkH (i := 18) (v := ?_) (fun V hV => ?_) ?_
            rotate_left
            · go_simp
              try with_reducible rfl
            try simp only [Act.put, List.getElem_toArray, List.getElem_cons_zero, List.getElem_cons_succ, List.setIfInBounds_toArray, List.set_cons_zero, List.set_cons_succ]
            refine tkH (i := 19) (v := ?_) (fun V hV => ?_) ?_
            rotate_left
            · go_simp
              try with_reducible rfl
            try simp only [Act.put, List.getElem_toArray, List.getElem_cons_zero, List.getElem_cons_succ, List.setIfInBounds_toArray, List.set_cons_zero, List.set_cons_succ]
            refine tkH (i := 20) (v := ?_) (fun V hV => ?_) ?_
            rotate_left
            · go_simp
              try with_reducible rfl
            try simp only [Act.put, List.getElem_toArray, List.getElem_cons_zero, List.getElem_cons_succ, List.setIfInBounds_toArray, List.set_cons_zero, List.set_cons_succ]
            refine tkH (i := 21) (v := ?_) (fun V hV => ?_) ?_
            rotate_left
            · go_simp
              try with_reducible rfl
            try simp only [Act.put, List.getElem_toArray, List.getElem_cons_zero, List.getElem_cons_succ, List.setIfInBounds_toArray, List.set_cons_zero, List.set_cons_succ]
            refine tkH (i := 22) (v := ?_) (fun V hV => ?_) ?_
            rotate_left
            · have d2 := HC2.out V hV 2 _ rfl; have d3 := HC2.out V hV 3 _ rfl; go_simp
              try with_reducible rfl
            try simp only [Act.put, List.getElem_toArray, List.getElem_cons_zero, List.getElem_cons_succ, List.setIfInBounds_toArray, List.set_cons_zero, List.set_cons_succ]
            refine wpAnyH_ready (rs := [23]) (by kernel_rfl) (by simp) ?_
            refine AllReadyH.cons (o := _) rfl (fun K hK => ?_) AllReadyH.nil
            go_simp
            (with_reducible refine (to_any r2 _).mono ?_)
            rintro e v23 ⟨rfl, hb⟩
            refine hK.out _ _ (hS.trans (hb.mono hS.size)) (fun hS => ?_)
            clear hK K
            try simp only [List.setIfInBounds_toArray, List.set_cons_zero, List.set_cons_succ]
            refine tkH (i := 24) (v := ?_) (fun V hV => ?_) ?_
            rotate_left
            · go_simp
              try with_reducible rfl
            try simp only [Act.put, List.getElem_toArray, List.getElem_cons_zero, List.getElem_cons_succ, List.setIfInBounds_toArray, List.set_cons_zero, List.set_cons_succ]
            refine tkH (i := 25) (v := ?_) (fun V hV => ?_) ?_
            rotate_left
            · go_simp
              try with_reducible rfl
            try simp only [Act.put, List.getElem_toArray, List.getElem_cons_zero, List.getElem_cons_succ, List.setIfInBounds_toArray, List.set_cons_zero, List.set_cons_succ]
            refine wpAnyH_done (by kernel_rfl) ?_ _
            have HS9 := hid hS
            clear hS
            go_wp2_with fail
            go_roundw
            case rel => exact ⟨j + 1, by omega, by go_num, HBW.out.trans (HS9.out.mono HBW.out.size)⟩
            case measure => simp [intOf]; omega
          · skip
            obtain rfl : tn = j := by omega
            have HW9 := hid (H9.out.step HBW.out)
            go_wp2_with fail
            (with_reducible refine (awake_any _).mono ?_)
            rintro e w99 ⟨rfl, hb⟩
            go_wp2_with fail
            go_ret
            exact ⟨rfl, HW9.out.below.trans (hb.mono HW9.out.below.size)⟩
    · have hn := net_bad (p := p) (by rw [HEV.out]; exact hE)
      rw [HRR.out] at hn
      rw [hn.1, hn.2] at HX
      have x0 := (HX.out.2 0 (.int .i64 0) rfl).1; have x1 := (HX.out.2 1 (.int .i64 0) rfl).1
      have hm0 : mb = 0 := by rw [← HMB.out, bndsP_nil (by rw [HEV.out]; exact hE)]; rfl
      subst hm0
      have hE1 : (ev == 0) = false := by simpa using hE
      have hE2 : (ev != 0) = true := by simpa using hE
      clear hn HMB
      go_wp2_with fail
      (with_reducible refine (awake_any _).mono ?_)
      rintro e w99 ⟨rfl, hb⟩
      go_wp2_with fail
      go_ret
      exact ⟨rfl, H7.out.below.trans (hb.mono H7.out.below.size)⟩
end Go.Proofs.Ytaioobhblfnlaaa
