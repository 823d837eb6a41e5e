/- TreatyPlays: the error of any programme, and what all treaties pay for any losses, and the society keeps, are as the document says, or the error is. For each programme and each list. -/
import Derived.Test.YtaioobhblfnlaaaD6
namespace Go.Proofs.Ytaioobhblfnlaaa
open Go.RowKit


theorem pl_bad {p : Prg} {l : List Int} (h : faultP p ≠ 0) : playE p l = faultP p ∧ playN p l = 0 ∧ playL p l = [] := by
  have h2 : playE p l = faultP p := by rw [playE, if_neg h]
  exact ⟨h2, play_not (by rw [h2]; exact h)⟩
theorem pl_not {p : Prg} {l : List Int} (h : faultP p = 0) (hl : listedB p.losses l = false) : playE p l = 2 ∧ playN p l = 0 ∧ playL p l = [] := by
  have h2 : playE p l = 2 := by rw [playE, if_pos h, hl]; rfl
  exact ⟨h2, play_not (by rw [h2]; decide)⟩
theorem pl_yes {p : Prg} {l : List Int} (h : faultP p = 0) (hl : listedB p.losses l = true) : playE p l = 0 ∧ playN p l = (payA p l).2 ∧ playL p l = ofF (payA p l).1 p.ts.length := by
  have h2 : playE p l = 0 := by rw [playE, if_pos h, hl]; rfl
  exact ⟨h2, by rw [playN, if_pos h2], by rw [playL, if_pos h2]⟩

set_option maxRecDepth 40000 in
set_option maxHeartbeats 8000000 in
theorem treatyPlays_any (p : Prg) (lp : Option Addr) (ln lc : Nat) (tp : Option Addr) (tn tc : Nat) (rp : Option Addr) (rn rc : Nat) (q : Option Addr) (m c : Nat) (l : List Int) (w : World) (hp : PrgAt w p lp ln tp tn rp rn) (hl : IntsAt w q m l) : Calls Try.prog 3 #[.agg #[.slice lp ln lc, .int .i64 p.reserve, .slice tp tn tc, .slice rp rn rc], .slice q m c] w fun e w' => e = .returned (.bool true) ∧ Below w.heap.size w w' := by
  have HQ := hid hl
  have HP := hid hp
  have HTH := hid (fun W (hW : Below w.heap.size w W) => thin_any p lp ln lc tp tn tc rp rn rc W (hp.below hW))
  have HFL := hid (fun W (hW : Below w.heap.size w W) => faultL_any p lp ln lc tp tn tc rp rn rc W (hp.below hW))
  have HRD := hid (fun W (hW : Below w.heap.size w W) => ready_any p lp ln lc tp tn tc rp rn rc W (hp.below hW))
  clear hp hl
  have H0 : Hid (Boxed1 w #[.slice lp ln lc, .int .i64 p.reserve, .slice tp tn tc, .slice rp rn rc] 26 (w.alloc (.cells #[.slice lp ln lc, .int .i64 p.reserve, .slice tp tn tc, .slice rp rn rc] 26))) := hid (Boxed1.start _ _ _)
  go_enter Try.func3, Try.ntmps3
  have e0 := H0.out.cell 0 (v := .slice lp ln lc) rfl; have e1 := H0.out.cell 1 (v := .int .i64 p.reserve) rfl; have e2 := H0.out.cell 2 (v := .slice tp tn tc) rfl; have e3 := H0.out.cell 3 (v := .slice rp rn rc) rfl
  go_wp2_with fail
  (with_reducible refine (HTH.out _ ?_).mono ?_)
  · exact H0.out.below
  rintro e w1 ⟨rfl, hb⟩
  have H1 := hid (H0.out.step hb)
  clear e0 e1 e2 e3 hb 
  cases hth : thinB p
  · clear hth
    go_wp2_with fail
    (with_reducible refine (awake_any _).mono ?_)
    rintro e w99 ⟨rfl, hb⟩
    go_wp2_with fail
    go_ret
    exact ⟨rfl, H1.out.below.trans (hb.mono H1.out.below.size)⟩
  · have HT3 := hid (thin_len hth)
    have hln : ln ≤ 7 := by have := HP.out.l.1; have := HT3.out.1; omega
    have htn : tn ≤ 8 := by have := HP.out.t.1; have := HT3.out.2.1; omega
    have hrn : rn ≤ 8 := by have := HP.out.r.1; have := HT3.out.2.2; omega
    clear hth
    by_cases h9 : 9 < m
    · have h9i : (9 : Int) < (m : Int) := by omega
      go_wp2_with fail
      (with_reducible refine (awake_any _).mono ?_)
      rintro e w99 ⟨rfl, hb⟩
      go_wp2_with fail
      go_ret
      exact ⟨rfl, H1.out.below.trans (hb.mono H1.out.below.size)⟩
    · have h9i : ¬ (9 : Int) < (m : Int) := by omega
      have e0 := H1.out.cell 0 (v := .slice lp ln lc) rfl; have e1 := H1.out.cell 1 (v := .int .i64 p.reserve) rfl; have e2 := H1.out.cell 2 (v := .slice tp tn tc) rfl; have e3 := H1.out.cell 3 (v := .slice rp rn rc) rfl
      go_wp2_with fail
      (with_reducible refine (prog_any p lp ln lc tp tn tc rp rn rc w1 (HP.out.below H1.out.below) (by omega) (by omega) (by omega)).mono ?_)
      rintro e w2 ⟨lq1, lc1, tq1, tc1, rq1, rc1, rfl, hpx, hcx, hb⟩
      have H2 := hid (H1.out.step hb)
      have HP1 := hid hpx; have HC1 := hid hcx
      clear e0 e1 e2 e3 hb hpx hcx
      go_wp2_with fail
      refine (list_any q m c l w2 (HQ.out.below H2.out.below) (by omega)).mono ?_
      rintro e w3 ⟨v, rfl, hown, hb⟩
      have H3 := hid (H2.out.step hb)
      replace HP1 := hid (HP1.out.below hb)
      obtain ⟨q1, d1, rfl, hi1⟩ := hown.slice
      rw [← HQ.out.1] at hi1 ⊢
      have HI1 := hid hi1
      clear hb hown hi1
      go_wp2_with fail
      refine (play_any p lq1 ln lc1 tq1 tn tc1 rq1 rn rc1 q1 m d1 l w3 HP1.out HI1.out (by omega)).mono ?_
      rintro e w4 ⟨v, rfl, hown, hb⟩
      have H4 := hid (H3.out.step hb)
      replace HP1 := hid (HP1.out.below hb)
      replace HI1 := hid (HI1.out.below hb)
      obtain ⟨q2, d2, rfl, hi2⟩ := hown.slice
      obtain ⟨k2, hk2⟩ : ∃ k, (playL p l).length = k := ⟨_, rfl⟩
      rw [hk2] at hi2 ⊢
      have HI2 := hid hi2
      clear hb hown hi2 hk2
      obtain ⟨pn, hpn⟩ : ∃ v, playN p l = v := ⟨_, rfl⟩
      obtain ⟨pe, hpe⟩ : ∃ v, playE p l = v := ⟨_, rfl⟩
      rw [hpn, hpe]
      have HPN := hid hpn; have HPE := hid hpe
      clear hpn hpe
      have e0 := H4.out.cell 0 (v := .slice lp ln lc) rfl; have e1 := H4.out.cell 1 (v := .int .i64 p.reserve) rfl; have e2 := H4.out.cell 2 (v := .slice tp tn tc) rfl; have e3 := H4.out.cell 3 (v := .slice rp rn rc) rfl
      go_wp2_with fail
      (with_reducible refine (HFL.out _ ?_).mono ?_)
      · exact H4.out.below
      rintro e w5 ⟨rfl, hb⟩
      have H5 := hid (H4.out.step hb)
      replace HI2 := hid (HI2.out.below hb)
      clear e0 e1 e2 e3 hb 
      have e0 := H5.out.cell 0 (v := .slice lp ln lc) rfl; have e1 := H5.out.cell 1 (v := .int .i64 p.reserve) rfl; have e2 := H5.out.cell 2 (v := .slice tp tn tc) rfl; have e3 := H5.out.cell 3 (v := .slice rp rn rc) rfl
      go_wp2_with fail
      (with_reducible refine (prog_any p lp ln lc tp tn tc rp rn rc w5 (HP.out.below H5.out.below) (by omega) (by omega) (by omega)).mono ?_)
      rintro e w6 ⟨lq2, lc2, tq2, tc2, rq2, rc2, rfl, hpx, hcx, hb⟩
      have H6 := hid (H5.out.step hb)
      replace HI2 := hid (HI2.out.below hb)
      have HP2 := hid hpx; have HC2 := hid hcx
      clear e0 e1 e2 e3 hb hpx hcx
      go_wp2_with fail
      refine (check_any p lq2 ln lc2 tq2 tn tc2 rq2 rn rc2 w6 HP2.out).mono ?_
      rintro e w7 ⟨rfl, hb⟩
      have H7 := hid (H6.out.step hb)
      replace HI2 := hid (HI2.out.below hb)
      replace HP2 := hid (HP2.out.below hb)
      clear hb 
      by_cases hF : faultP p = 0
      · have HOK := hid (fault_iff.1 hF)
        have HF0 := hid hF
        rw [hF]
        clear hF
        have e0 := H7.out.cell 0 (v := .slice lp ln lc) rfl; have e1 := H7.out.cell 1 (v := .int .i64 p.reserve) rfl; have e2 := H7.out.cell 2 (v := .slice tp tn tc) rfl; have e3 := H7.out.cell 3 (v := .slice rp rn rc) rfl
        go_wp2_with fail
        refine (isListed_any p lp ln lc tp tn tc rp rn rc q m c l w7 (HP.out.below H7.out.below) (HQ.out.below H7.out.below) (by omega) (by omega)).mono ?_
        rintro e w8 ⟨rfl, hb⟩
        have H8 := hid (H7.out.step hb)
        replace HI2 := hid (HI2.out.below hb)
        clear e0 e1 e2 e3 hb 
        cases hls : listedB p.losses l
        · have hn := pl_not HF0.out hls
          have hk := ints_nil9 HI2.out hn.2.2
          subst hk
          have hp0 : pn = 0 := by rw [← HPN.out, hn.2.1]
          have he0 : pe = 2 := by rw [← HPE.out, hn.1]
          subst hp0 he0
          clear hn hls HPN HPE HI2
          go_wp2_with fail
          (with_reducible refine (awake_any _).mono ?_)
          rintro e w99 ⟨rfl, hb⟩
          go_wp2_with fail
          go_ret
          exact ⟨rfl, H8.out.below.trans (hb.mono H8.out.below.size)⟩
        · have hn := pl_yes HF0.out hls
          have he0 : pe = 0 := by rw [← HPE.out, hn.1]
          subst he0
          have HLB := hid (listed_bd HOK.out.loss hls)
          have hm : m ≤ 100 := by omega
          have htn5 : tn ≤ 5 := by have := HP.out.t.1; have := HOK.out.m5; omega
          have HEV := hid (everyN_bd (show tn ≤ 9 by omega))
          have HPE2 := hid (pays_every p tn HP.out.t.1 l)
          have HPN2 : Hid ((payA p l).2 = pn) := hid (by rw [← hn.2.1]; exact HPN.out)
          replace HI2 := hid HI2.out
          rw [hn.2.2, ← HP.out.t.1] at HI2
          have HK2 : Hid (k2 = tn) := hid (by rw [HI2.out.1, ofF_len])
          rw [HK2.out] at HI2 ⊢
          clear hn hls HPN HPE HK2
          go_upto_region 11 with fail
          refine wp_region_held_drew (S := fun V => Boxed1 w #[.slice lp ln lc, .int .i64 p.reserve, .slice tp tn tc, .slice rp rn rc] 26 V ∧ Below w8.heap.size w8 V) (by kernel_rfl) (⟨H8.out.drew, (Below.refl _ _).drew⟩) (fun hS => ?_)
          simp only [List.size_toArray, List.length_cons, List.length_nil, Nat.reduceAdd, Array.replicate_succ, Array.replicate_zero, List.push_toArray, List.nil_append, List.cons_append]
          refine tkH (i := 0) (v := ?_) (fun V hV => ?_) ?_
          rotate_left
          · have e0 := hV.1.cell 0 (v := .slice lp ln lc) rfl; have e1 := hV.1.cell 1 (v := .int .i64 p.reserve) rfl; have e2 := hV.1.cell 2 (v := .slice tp tn tc) rfl; have e3 := hV.1.cell 3 (v := .slice rp rn rc) rfl; go_simp
            try with_reducible rfl
          try simp only [Act.put, List.getElem_toArray, List.getElem_cons_zero, List.setIfInBounds_toArray, List.set_cons_zero, List.set_cons_succ]
          refine tkH (i := 1) (v := ?_) (fun V hV => ?_) ?_
          rotate_left
          · go_simp
            try with_reducible rfl
          try simp only [Act.put, List.getElem_toArray, List.getElem_cons_zero, List.getElem_cons_succ, List.setIfInBounds_toArray, List.set_cons_zero, List.set_cons_succ]
          refine tkH (i := 2) (v := ?_) (fun V hV => ?_) ?_
          rotate_left
          · have e0 := hV.1.cell 0 (v := .slice lp ln lc) rfl; have e1 := hV.1.cell 1 (v := .int .i64 p.reserve) rfl; have e2 := hV.1.cell 2 (v := .slice tp tn tc) rfl; have e3 := hV.1.cell 3 (v := .slice rp rn rc) rfl; go_simp
            try with_reducible rfl
          try simp only [Act.put, List.getElem_toArray, List.getElem_cons_zero, List.getElem_cons_succ, List.setIfInBounds_toArray, List.set_cons_zero, List.set_cons_succ]
          refine wpAnyH_ready (rs := [3]) (by kernel_rfl) (by simp) ?_
          refine AllReadyH.cons (o := _) rfl (fun K hK => ?_) AllReadyH.nil
          go_simp
          (with_reducible refine (every_any p lp ln lc tp tn tc rp rn rc _ (by omega)).mono ?_)
          rintro e v3 ⟨rfl, hb⟩
          refine hK.out _ _ (⟨hS.1.step hb, hS.2.trans (hb.mono hS.2.size)⟩) (fun hS => ?_)
          clear hK K
          try simp only [List.setIfInBounds_toArray, List.set_cons_zero, List.set_cons_succ]
          refine wpAnyH_ready (rs := [4]) (by kernel_rfl) (by simp) ?_
          refine AllReadyH.cons (o := _) rfl (fun K hK => ?_) AllReadyH.nil
          go_simp
          (with_reducible refine (pays_any p lp ln lc tp tn tc rp rn rc q m c l (everyN tn) _ (HP.out.below hS.1.below) (HQ.out.below hS.1.below) htn5 hm HOK.out.ots HLB.out HEV.out.1 HEV.out.2).mono ?_)
          rintro e v4 ⟨q4, c4, rfl, hi4, hb⟩
          rw [HPE2.out] at hi4 ⊢
          rw [HPN2.out]
          have HI4 := hid hi4
          clear hi4
          refine hK.out _ _ (⟨hS.1.step hb, hS.2.trans (hb.mono hS.2.size)⟩) (fun hS => ?_)
          clear hK K
          try simp only [List.setIfInBounds_toArray, List.set_cons_zero, List.set_cons_succ]
          refine tkH (i := 5) (v := ?_) (fun V hV => ?_) ?_
          rotate_left
          · go_simp
            try with_reducible rfl
          try simp only [Act.put, List.getElem_toArray, List.getElem_cons_zero, List.getElem_cons_succ, List.setIfInBounds_toArray, List.set_cons_zero, List.set_cons_succ]
          refine tkH (i := 6) (v := ?_) (fun V hV => ?_) ?_
          rotate_left
          · go_simp
            try with_reducible rfl
          try simp only [Act.put, List.getElem_toArray, List.getElem_cons_zero, List.getElem_cons_succ, List.setIfInBounds_toArray, List.set_cons_zero, List.set_cons_succ]
          refine tkH (i := 7) (v := ?_) (fun V hV => ?_) ?_
          rotate_left
          · go_simp
            try with_reducible rfl
          try simp only [Act.put, List.getElem_toArray, List.getElem_cons_zero, List.getElem_cons_succ, List.setIfInBounds_toArray, List.set_cons_zero, List.set_cons_succ]
          refine tkH (i := 8) (v := ?_) (fun V hV => ?_) ?_
          rotate_left
          · go_simp
            try with_reducible rfl
          try simp only [Act.put, List.getElem_toArray, List.getElem_cons_zero, List.getElem_cons_succ, List.setIfInBounds_toArray, List.set_cons_zero, List.set_cons_succ]
          refine tkH (i := 9) (v := ?_) (fun V hV => ?_) ?_
          rotate_left
          · go_simp
            try with_reducible rfl
          try simp only [Act.put, List.getElem_toArray, List.getElem_cons_zero, List.getElem_cons_succ, List.setIfInBounds_toArray, List.set_cons_zero, List.set_cons_succ]
          refine wpAnyH_done (by kernel_rfl) ?_ _
          have H9 := hid hS.1; replace HI2 := hid (HI2.out.below hS.2)
          clear hS
          go_wp2_with fail
          refine (ints_any q2 tn d2 (ofF (payA p l).1 tn) q4 tn c4 (ofF (payA p l).1 tn) _ HI2.out HI4.out (by omega) (by omega)).mono ?_
          rintro e w10 ⟨rfl, hb⟩
          have H10 := hid (H9.out.step hb)
          replace HI2 := hid (HI2.out.below hb)
          replace HI4 := hid (HI4.out.below hb)
          rw [show decide (ofF (payA p l).1 tn = ofF (payA p l).1 tn) = true from by simp]
          clear hb 
          go_wp2_with fail
          (with_reducible refine (awake_any _).mono ?_)
          rintro e w99 ⟨rfl, hb⟩
          go_wp2_with fail
          go_ret
          exact ⟨rfl, H10.out.below.trans (hb.mono H10.out.below.size)⟩
      · have hn := pl_bad (l := l) hF
        have hk := ints_nil9 HI2.out hn.2.2
        subst hk
        have hp0 : pn = 0 := by rw [← HPN.out, hn.2.1]
        have he0 : pe = faultP p := by rw [← HPE.out, hn.1]
        subst hp0 he0
        clear hn HPN HPE HI2
        obtain ⟨F, hFF⟩ : ∃ F, faultP p = F := ⟨_, rfl⟩
        rw [hFF] at hF  ⊢
        have hF1 : (F == 0) = false := by simpa using hF
        have hF2 : (F != 0) = true := by simpa using hF
        clear hFF
        go_wp2_with fail
        (with_reducible refine (awake_any _).mono ?_)
        rintro e w99 ⟨rfl, hb⟩
        go_wp2_with fail
        go_ret
        exact ⟨rfl, H7.out.below.trans (hb.mono H7.out.below.size)⟩
end Go.Proofs.Ytaioobhblfnlaaa
