/- TreatyLeaves: the first wrong report, and the smallest set, are as the document says, or the error is: all sets are tried. For each programme. -/
import Derived.Test.YtaioobhblfnlaaaD6
namespace Go.Proofs.Ytaioobhblfnlaaa
open Go.RowKit


theorem fl_bad {p : Prg} (h : faultP p ≠ 0) : firstV p = 0 ∧ firstE p = faultP p ∧ leaveV p = [] := ⟨by rw [firstV, if_neg h], by rw [firstE, if_neg h], by rw [leaveV, if_neg h]⟩
theorem fl_none {p : Prg} (h : faultP p = 0) (hf : firstP p = -1) : firstV p = 0 ∧ firstE p = 7 := ⟨by rw [firstV, if_pos h, if_pos hf], by rw [firstE, if_pos h, if_pos hf]⟩
theorem fl_some {p : Prg} (h : faultP p = 0) (hf : firstP p ≠ -1) : firstV p = firstP p ∧ firstE p = 0 := ⟨by rw [firstV, if_pos h, if_neg hf], by rw [firstE, if_pos h, if_neg hf]⟩
theorem leaveP_len {p : Prg} (ok : OkP p) : (leaveP p).length ≤ 1000000 := by
  have := incr_room p.reps.length (leaveP p) 0 (leave_first ok).1
  have h5 := ok.k5
  by_cases h0 : leaveP p = []
  · rw [h0]; simp
  · have := this h0; omega

set_option maxRecDepth 40000 in
set_option maxHeartbeats 8000000 in
theorem treatyLeaves_any (p : Prg) (lp : Option Addr) (ln lc : Nat) (tp : Option Addr) (tn tc : Nat) (rp : Option Addr) (rn rc : Nat) (w : World) (hp : PrgAt w p lp ln tp tn rp rn) : Calls Try.prog 7 #[.agg #[.slice lp ln lc, .int .i64 p.reserve, .slice tp tn tc, .slice rp rn rc]] w fun e w' => e = .returned (.bool true) ∧ Below w.heap.size w w' := by
  have HP := hid hp
  have HTH := hid (fun W (hW : Below w.heap.size w W) => thin_any p lp ln lc tp tn tc rp rn rc W (hp.below hW))
  have HFL := hid (fun W (hW : Below w.heap.size w W) => faultL_any p lp ln lc tp tn tc rp rn rc W (hp.below hW))
  have HRD := hid (fun W (hW : Below w.heap.size w W) => ready_any p lp ln lc tp tn tc rp rn rc W (hp.below hW))
  clear hp 
  have H0 : Hid (Boxed1 w #[.slice lp ln lc, .int .i64 p.reserve, .slice tp tn tc, .slice rp rn rc] 26 (w.alloc (.cells #[.slice lp ln lc, .int .i64 p.reserve, .slice tp tn tc, .slice rp rn rc] 26))) := hid (Boxed1.start _ _ _)
  go_enter Try.func7, Try.ntmps7
  have e0 := H0.out.cell 0 (v := .slice lp ln lc) rfl; have e1 := H0.out.cell 1 (v := .int .i64 p.reserve) rfl; have e2 := H0.out.cell 2 (v := .slice tp tn tc) rfl; have e3 := H0.out.cell 3 (v := .slice rp rn rc) rfl
  go_wp2_with fail
  (with_reducible refine (HTH.out _ ?_).mono ?_)
  · exact H0.out.below
  rintro e w1 ⟨rfl, hb⟩
  have H1 := hid (H0.out.step hb)
  clear e0 e1 e2 e3 hb 
  cases hth : thinB p
  · clear hth
    go_wp2_with fail
    (with_reducible refine (awake_any _).mono ?_)
    rintro e w99 ⟨rfl, hb⟩
    go_wp2_with fail
    go_ret
    exact ⟨rfl, H1.out.below.trans (hb.mono H1.out.below.size)⟩
  · have HT3 := hid (thin_len hth)
    have hln : ln ≤ 7 := by have := HP.out.l.1; have := HT3.out.1; omega
    have htn : tn ≤ 8 := by have := HP.out.t.1; have := HT3.out.2.1; omega
    have hrn : rn ≤ 8 := by have := HP.out.r.1; have := HT3.out.2.2; omega
    clear hth
    have e0 := H1.out.cell 0 (v := .slice lp ln lc) rfl; have e1 := H1.out.cell 1 (v := .int .i64 p.reserve) rfl; have e2 := H1.out.cell 2 (v := .slice tp tn tc) rfl; have e3 := H1.out.cell 3 (v := .slice rp rn rc) rfl
    go_wp2_with fail
    (with_reducible refine (prog_any p lp ln lc tp tn tc rp rn rc w1 (HP.out.below H1.out.below) (by omega) (by omega) (by omega)).mono ?_)
    rintro e w2 ⟨lq1, lc1, tq1, tc1, rq1, rc1, rfl, hpx, hcx, hb⟩
    have H2 := hid (H1.out.step hb)
    have HP1 := hid hpx; have HC1 := hid hcx
    clear e0 e1 e2 e3 hb hpx hcx
    go_wp2_with fail
    refine (first_any p lq1 ln lc1 tq1 tn tc1 rq1 rn rc1 w2 HP1.out HC1.out).mono ?_
    rintro e w3 ⟨rfl, hb⟩
    have H3 := hid (H2.out.step hb)
    replace HP1 := hid (HP1.out.below hb)
    clear hb 
    obtain ⟨fv, hfv⟩ : ∃ v, firstV p = v := ⟨_, rfl⟩
    obtain ⟨fe, hfe⟩ : ∃ v, firstE p = v := ⟨_, rfl⟩
    rw [hfv, hfe]
    have HFV := hid hfv; have HFE := hid hfe
    clear hfv hfe
    have e0 := H3.out.cell 0 (v := .slice lp ln lc) rfl; have e1 := H3.out.cell 1 (v := .int .i64 p.reserve) rfl; have e2 := H3.out.cell 2 (v := .slice tp tn tc) rfl; have e3 := H3.out.cell 3 (v := .slice rp rn rc) rfl
    go_wp2_with fail
    (with_reducible refine (prog_any p lp ln lc tp tn tc rp rn rc w3 (HP.out.below H3.out.below) (by omega) (by omega) (by omega)).mono ?_)
    rintro e w4 ⟨lq2, lc2, tq2, tc2, rq2, rc2, rfl, hpx, hcx, hb⟩
    have H4 := hid (H3.out.step hb)
    have HP2 := hid hpx; have HC2 := hid hcx
    clear e0 e1 e2 e3 hb hpx hcx
    go_wp2_with fail
    refine (leave_any p lq2 ln lc2 tq2 tn tc2 rq2 rn rc2 w4 HP2.out).mono ?_
    rintro e w5 ⟨q, k, d, rfl, hi, hb⟩
    have H5 := hid (H4.out.step hb)
    replace HP2 := hid (HP2.out.below hb)
    have HI := hid hi
    clear hb hi
    have e0 := H5.out.cell 0 (v := .slice lp ln lc) rfl; have e1 := H5.out.cell 1 (v := .int .i64 p.reserve) rfl; have e2 := H5.out.cell 2 (v := .slice tp tn tc) rfl; have e3 := H5.out.cell 3 (v := .slice rp rn rc) rfl
    go_wp2_with fail
    (with_reducible refine (HFL.out _ ?_).mono ?_)
    · exact H5.out.below
    rintro e w6 ⟨rfl, hb⟩
    have H6 := hid (H5.out.step hb)
    replace HI := hid (HI.out.below hb)
    clear e0 e1 e2 e3 hb 
    by_cases hF : faultP p = 0
    · have HOK := hid (fault_iff.1 hF)
      have HF0 := hid hF
      rw [hF]
      have hlv : leaveV p = leaveP p := by rw [leaveV, if_pos hF]
      rw [hlv] at HI
      clear hF hlv
      have HRN := hid HP.out.r.1
      have hrn5 : rn ≤ 5 := by have := HRN.out; have := HOK.out.k5; omega
      have HLT := hid (allP_lt HOK.out); have HAL := hid (allP_len HOK.out)
      have HLN := hid (leaveP_len HOK.out)
      have HLP : Hid (bestL (fun b => canN (allP p) (andN (2 ^ rn - 1) b)) rn = leaveP p) := hid (by rw [HRN.out]; rfl)
      have HFP : Hid (firstG (fun j => canN (allP p) (2 ^ (j + 1) - 1)) 0 rn = firstP p) := hid (by rw [HRN.out]; exact first_law HOK.out)
      have hk9 : k ≤ 1000000 := by rw [HI.out.1]; exact HLN.out
      have e0 := H6.out.cell 0 (v := .slice lp ln lc) rfl; have e1 := H6.out.cell 1 (v := .int .i64 p.reserve) rfl; have e2 := H6.out.cell 2 (v := .slice tp tn tc) rfl; have e3 := H6.out.cell 3 (v := .slice rp rn rc) rfl
      go_wp2_with fail
      refine (all_any p lp ln lc tp tn tc rp rn rc w6 (HP.out.below H6.out.below) HOK.out).mono ?_
      rintro e w7 ⟨v, rfl, hown, hb⟩
      have H7 := hid (H6.out.step hb)
      replace HI := hid (HI.out.below hb)
      obtain ⟨qa, da, rfl, hia⟩ := hown.slice
      obtain ⟨N, hN⟩ : ∃ N, (castL (allP p)).length = N := ⟨_, rfl⟩
      have HN : Hid (N ≤ 1000000) := hid (by rw [← hN]; exact HAL.out)
      rw [hN] at hia ⊢
      have HIA := hid hia
      clear e0 e1 e2 e3 hb hown hia hN
      have e0 := H7.out.cell 0 (v := .slice lp ln lc) rfl; have e1 := H7.out.cell 1 (v := .int .i64 p.reserve) rfl; have e2 := H7.out.cell 2 (v := .slice tp tn tc) rfl; have e3 := H7.out.cell 3 (v := .slice rp rn rc) rfl
      go_wp2_with fail
      refine (leaveR_any p lp ln lc tp tn tc rp rn rc qa N da (allP p) w7 HIA.out HN.out HLT.out (by omega)).mono ?_
      rintro e w8 ⟨v, rfl, hown, hb⟩
      have H8 := hid (H7.out.step hb)
      replace HI := hid (HI.out.below hb)
      replace HIA := hid (HIA.out.below hb)
      rw [HLP.out] at hown
      obtain ⟨q2, d2, rfl, hi2⟩ := hown.slice
      obtain ⟨m2, hm2⟩ : ∃ m, (leaveP p).length = m := ⟨_, rfl⟩
      rw [hm2] at hi2 HLN ⊢
      have HI2 := hid hi2
      clear e0 e1 e2 e3 hb hi2 hown hm2
      go_wp2_with fail
      refine (ints_any q k d (leaveP p) q2 m2 d2 (leaveP p) w8 HI.out HI2.out hk9 HLN.out).mono ?_
      rintro e w9 ⟨rfl, hb⟩
      have H9 := hid (H8.out.step hb)
      replace HI := hid (HI.out.below hb)
      replace HIA := hid (HIA.out.below hb)
      replace HI2 := hid (HI2.out.below hb)
      rw [show decide (leaveP p = leaveP p) = true from by simp]
      clear hb 
      have e0 := H9.out.cell 0 (v := .slice lp ln lc) rfl; have e1 := H9.out.cell 1 (v := .int .i64 p.reserve) rfl; have e2 := H9.out.cell 2 (v := .slice tp tn tc) rfl; have e3 := H9.out.cell 3 (v := .slice rp rn rc) rfl
      go_wp2_with fail
      refine (firstR_any p lp ln lc tp tn tc rp rn rc qa N da (allP p) w9 HIA.out HN.out HLT.out (by omega)).mono ?_
      rintro e w10 ⟨rfl, hb⟩
      have H10 := hid (H9.out.step hb)
      replace HI := hid (HI.out.below hb)
      replace HIA := hid (HIA.out.below hb)
      replace HI2 := hid (HI2.out.below hb)
      rw [HFP.out]
      clear e0 e1 e2 e3 hb 
      by_cases hf : firstP p = -1
      · have hn := fl_none HF0.out hf
        have h1 : fv = 0 := by rw [← HFV.out, hn.1]
        have h2 : fe = 7 := by rw [← HFE.out, hn.2]
        subst h1 h2
        rw [hf]
        clear hn hf HFV HFE
        go_wp2_with fail
        (with_reducible refine (awake_any _).mono ?_)
        rintro e w99 ⟨rfl, hb⟩
        go_wp2_with fail
        go_ret
        exact ⟨rfl, H10.out.below.trans (hb.mono H10.out.below.size)⟩
      · have hn := fl_some HF0.out hf
        obtain ⟨j, hj⟩ : ∃ j : Nat, firstP p = (j : Int) := by
          rcases first_spec HOK.out with h | ⟨j, h, _⟩
          · exact absurd h.1 hf
          · exact ⟨j, h⟩
        have h1 : fv = (j : Int) := by rw [← HFV.out, hn.1, hj]
        have h2 : fe = 0 := by rw [← HFE.out, hn.2]
        subst h1 h2
        rw [hj]
        clear hn hf HFV HFE hj HFP
        go_wp2_with fail
        (with_reducible refine (awake_any _).mono ?_)
        rintro e w99 ⟨rfl, hb⟩
        go_wp2_with fail
        go_ret
        exact ⟨rfl, H10.out.below.trans (hb.mono H10.out.below.size)⟩
    · have hn := fl_bad hF
      have hk := ints_nil9 HI.out hn.2.2
      subst hk
      have hp0 : fv = 0 := by rw [← HFV.out, hn.1]
      have he0 : fe = faultP p := by rw [← HFE.out, hn.2.1]
      subst hp0 he0
      clear hn HFV HFE HI
      obtain ⟨F, hFF⟩ : ∃ F, faultP p = F := ⟨_, rfl⟩
      rw [hFF] at hF  ⊢
      have hF1 : (F == 0) = false := by simpa using hF
      have hF2 : (F != 0) = true := by simpa using hF
      clear hFF
      go_wp2_with fail
      (with_reducible refine (awake_any _).mono ?_)
      rintro e w99 ⟨rfl, hb⟩
      go_wp2_with fail
      go_ret
      exact ⟨rfl, H6.out.below.trans (hb.mono H6.out.below.size)⟩
end Go.Proofs.Ytaioobhblfnlaaa
