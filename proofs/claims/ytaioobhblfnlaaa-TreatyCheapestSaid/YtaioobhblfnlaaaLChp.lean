/- TreatyCheapest: the cheapest set of any programme is as the document says, or the error is: all sets are tried. For each programme. -/
import Derived.Test.YtaioobhblfnlaaaD6
import Derived.Test.YtaioobhblfnlaaaC1
namespace Go.Proofs.Ytaioobhblfnlaaa
open Go.RowKit


theorem chE_bad {p : Prg} (h : faultP p ≠ 0) : chE p = faultP p ∧ chO p = none ∧ chV p = [] := by
  have h2 : chO p = none := by rw [chO, if_neg h]
  exact ⟨by rw [chE, if_neg h], h2, by rw [chV, h2]; rfl⟩
theorem chE_none {p : Prg} (h : faultP p = 0) (hc : cheapP p = none) : chE p = 10 ∧ chO p = none ∧ chV p = [] := by
  have h2 : chO p = none := by rw [chO, if_pos h, hc]
  exact ⟨by rw [chE, if_pos h, hc]; rfl, h2, by rw [chV, h2]; rfl⟩
theorem chE_some {p : Prg} {X : List Int} (h : faultP p = 0) (hc : cheapP p = some X) : chE p = 0 ∧ chO p = some X ∧ chV p = X := by
  have h2 : chO p = some X := by rw [chO, if_pos h, hc]
  exact ⟨by rw [chE, if_pos h, hc]; rfl, h2, by rw [chV, h2]; rfl⟩

set_option maxRecDepth 40000 in
set_option maxHeartbeats 8000000 in
theorem treatyCheapest_any (p : Prg) (lp : Option Addr) (ln lc : Nat) (tp : Option Addr) (tn tc : Nat) (rp : Option Addr) (rn rc : Nat) (w : World) (hp : PrgAt w p lp ln tp tn rp rn) : Calls Try.prog 6 #[.agg #[.slice lp ln lc, .int .i64 p.reserve, .slice tp tn tc, .slice rp rn rc]] w fun e w' => e = .returned (.bool true) ∧ Below w.heap.size w w' := by
  have HP := hid hp
  have HTH := hid (fun W (hW : Below w.heap.size w W) => thin_any p lp ln lc tp tn tc rp rn rc W (hp.below hW))
  have HFL := hid (fun W (hW : Below w.heap.size w W) => faultL_any p lp ln lc tp tn tc rp rn rc W (hp.below hW))
  have HRD := hid (fun W (hW : Below w.heap.size w W) => ready_any p lp ln lc tp tn tc rp rn rc W (hp.below hW))
  clear hp 
  have H0 : Hid (Boxed1 w #[.slice lp ln lc, .int .i64 p.reserve, .slice tp tn tc, .slice rp rn rc] 26 (w.alloc (.cells #[.slice lp ln lc, .int .i64 p.reserve, .slice tp tn tc, .slice rp rn rc] 26))) := hid (Boxed1.start _ _ _)
  go_enter Try.func6, Try.ntmps6
  have e0 := H0.out.cell 0 (v := .slice lp ln lc) rfl; have e1 := H0.out.cell 1 (v := .int .i64 p.reserve) rfl; have e2 := H0.out.cell 2 (v := .slice tp tn tc) rfl; have e3 := H0.out.cell 3 (v := .slice rp rn rc) rfl
  go_wp2_with fail
  (with_reducible refine (HTH.out _ ?_).mono ?_)
  · exact H0.out.below
  rintro e w1 ⟨rfl, hb⟩
  have H1 := hid (H0.out.step hb)
  clear e0 e1 e2 e3 hb 
  cases hth : thinB p
  · clear hth
    go_wp2_with fail
    (with_reducible refine (awake_any _).mono ?_)
    rintro e w99 ⟨rfl, hb⟩
    go_wp2_with fail
    go_ret
    exact ⟨rfl, H1.out.below.trans (hb.mono H1.out.below.size)⟩
  · have HT3 := hid (thin_len hth)
    have hln : ln ≤ 7 := by have := HP.out.l.1; have := HT3.out.1; omega
    have htn : tn ≤ 8 := by have := HP.out.t.1; have := HT3.out.2.1; omega
    have hrn : rn ≤ 8 := by have := HP.out.r.1; have := HT3.out.2.2; omega
    clear hth
    have e0 := H1.out.cell 0 (v := .slice lp ln lc) rfl; have e1 := H1.out.cell 1 (v := .int .i64 p.reserve) rfl; have e2 := H1.out.cell 2 (v := .slice tp tn tc) rfl; have e3 := H1.out.cell 3 (v := .slice rp rn rc) rfl
    go_wp2_with fail
    (with_reducible refine (prog_any p lp ln lc tp tn tc rp rn rc w1 (HP.out.below H1.out.below) (by omega) (by omega) (by omega)).mono ?_)
    rintro e w2 ⟨lq1, lc1, tq1, tc1, rq1, rc1, rfl, hpx, hcx, hb⟩
    have H2 := hid (H1.out.step hb)
    have HP1 := hid hpx; have HC1 := hid hcx
    clear e0 e1 e2 e3 hb hpx hcx
    go_wp2_with fail
    refine (cheapest_any p lq1 ln lc1 tq1 tn tc1 rq1 rn rc1 w2 HP1.out).mono ?_
    rintro e w3 ⟨q, k, d, rfl, hi, hb⟩
    have H3 := hid (H2.out.step hb)
    replace HP1 := hid (HP1.out.below hb)
    have HI := hid hi
    clear hb hi
    obtain ⟨pv, hpv⟩ : ∃ v, prO p.ts (chO p) = v := ⟨_, rfl⟩
    obtain ⟨ev, hev⟩ : ∃ v, chE p = v := ⟨_, rfl⟩
    rw [hpv, hev]
    have HPV := hid hpv; have HEV := hid hev
    clear hpv hev
    have e0 := H3.out.cell 0 (v := .slice lp ln lc) rfl; have e1 := H3.out.cell 1 (v := .int .i64 p.reserve) rfl; have e2 := H3.out.cell 2 (v := .slice tp tn tc) rfl; have e3 := H3.out.cell 3 (v := .slice rp rn rc) rfl
    go_wp2_with fail
    (with_reducible refine (HFL.out _ ?_).mono ?_)
    · exact H3.out.below
    rintro e w4 ⟨rfl, hb⟩
    have H4 := hid (H3.out.step hb)
    replace HP1 := hid (HP1.out.below hb)
    replace HI := hid (HI.out.below hb)
    clear e0 e1 e2 e3 hb 
    by_cases hF : faultP p = 0
    · have HOK := hid (fault_iff.1 hF)
      have HF0 := hid hF
      rw [hF]
      clear hF
      have HLAW := hid (cheap_law HOK.out.m5)
      have e0 := H4.out.cell 0 (v := .slice lp ln lc) rfl; have e1 := H4.out.cell 1 (v := .int .i64 p.reserve) rfl; have e2 := H4.out.cell 2 (v := .slice tp tn tc) rfl; have e3 := H4.out.cell 3 (v := .slice rp rn rc) rfl
      go_wp2_with fail
      (with_reducible refine (cheapestR_any p lp ln lc tp tn tc rp rn rc w4 (HP.out.below H4.out.below) HOK.out).mono ?_)
      rintro e w5 ⟨rfl, hb⟩
      have H5 := hid (H4.out.step hb)
      replace HP1 := hid (HP1.out.below hb)
      replace HI := hid (HI.out.below hb)
      clear e0 e1 e2 e3 hb 
      cases hc : cheapR p with
      | none =>
        have hn := chE_none HF0.out (by rw [HLAW.out, hc]; rfl)
        have hk := ints_nil9 HI.out hn.2.2
        subst hk
        have hp0 : pv = 0 := by rw [← HPV.out, hn.2.1]; rfl
        have he0 : ev = 10 := by rw [← HEV.out, hn.1]
        subst hp0 he0
        clear hn hc HPV HEV HI
        skip
        go_wp2_with fail
        (with_reducible refine (awake_any _).mono ?_)
        rintro e w99 ⟨rfl, hb⟩
        go_wp2_with fail
        go_ret
        exact ⟨rfl, H5.out.below.trans (hb.mono H5.out.below.size)⟩
      | some b =>
        have hn := chE_some HF0.out (X := bitsL (b : Nat)) (by rw [HLAW.out, hc]; rfl)
        have hlt := cheapR_lt hc
        have HB2 := hid hlt
        have hpw : 2 ^ p.ts.length ≤ 2 ^ 5 := Nat.pow_le_pow_right (by decide) HOK.out.m5
        have hb32 : b < 32 := by omega
        have he0 : ev = 0 := by rw [← HEV.out, hn.1]
        subst he0
        have HPB : Hid (priceG (bitB (b : Nat)) 0 p.ts = pv) := hid (by rw [price_bits (by have := HOK.out.m5; omega) hlt, ← HPV.out, hn.2.1]; rfl)
        replace HI := hid HI.out
        rw [hn.2.2] at HI
        have HLB : Hid ((bitsL (b : Nat)).length ≤ 1000000) := hid (by have := bitsTo_len ((b : Nat) : Int) 12; show (bitsTo _ 12).length ≤ _; omega)
        have hk9 : k ≤ 1000000 := by rw [HI.out.1]; exact HLB.out
        clear hn hc hlt hpw HEV HPV HB2
        go_wp2_with fail
        refine (bits_any (b : Nat) w5 (by omega) (by omega)).mono ?_
        rintro e w6 ⟨v, rfl, hown, hb⟩
        have H6 := hid (H5.out.step hb)
        replace HP1 := hid (HP1.out.below hb)
        replace HI := hid (HI.out.below hb)
        obtain ⟨q2, d2, rfl, hi2⟩ := hown.slice
        obtain ⟨m2, hm2⟩ : ∃ m, (bitsL ((b : Nat) : Int)).length = m := ⟨_, rfl⟩
        rw [hm2] at hi2 HLB ⊢
        have HI2 := hid hi2
        clear hb hi2 hown hm2
        go_wp2_with fail
        refine (ints_any q k d (bitsL ((b : Nat) : Int)) q2 m2 d2 (bitsL ((b : Nat) : Int)) w6 HI.out HI2.out hk9 HLB.out).mono ?_
        rintro e w7 ⟨rfl, hb⟩
        have H7 := hid (H6.out.step hb)
        replace HP1 := hid (HP1.out.below hb)
        replace HI := hid (HI.out.below hb)
        replace HI2 := hid (HI2.out.below hb)
        rw [show decide (bitsL ((b : Nat) : Int) = bitsL ((b : Nat) : Int)) = true from by simp]
        clear hb 
        have e0 := H7.out.cell 0 (v := .slice lp ln lc) rfl; have e1 := H7.out.cell 1 (v := .int .i64 p.reserve) rfl; have e2 := H7.out.cell 2 (v := .slice tp tn tc) rfl; have e3 := H7.out.cell 3 (v := .slice rp rn rc) rfl
        go_wp2_with fail
        refine (price_any p lp ln lc tp tn tc rp rn rc (b : Nat) w7 (HP.out.below H7.out.below) (by have := HP.out.t.1; have := HOK.out.m5; omega) (by omega) (by omega) HOK.out.prices).mono ?_
        rintro e w8 ⟨rfl, hb⟩
        have H8 := hid (H7.out.step hb)
        replace HP1 := hid (HP1.out.below hb)
        replace HI := hid (HI.out.below hb)
        replace HI2 := hid (HI2.out.below hb)
        rw [HPB.out]
        clear e0 e1 e2 e3 hb 
        go_wp2_with fail
        (with_reducible refine (awake_any _).mono ?_)
        rintro e w99 ⟨rfl, hb⟩
        go_wp2_with fail
        go_ret
        exact ⟨rfl, H8.out.below.trans (hb.mono H8.out.below.size)⟩
    · have hn := chE_bad hF
      have hk := ints_nil9 HI.out hn.2.2
      subst hk
      have hp0 : pv = 0 := by rw [← HPV.out, hn.2.1]; rfl
      have he0 : ev = faultP p := by rw [← HEV.out, hn.1]
      subst hp0 he0
      clear hn HPV HEV HI
      obtain ⟨F, hFF⟩ : ∃ F, faultP p = F := ⟨_, rfl⟩
      rw [hFF] at hF  ⊢
      have hF1 : (F == 0) = false := by simpa using hF
      have hF2 : (F != 0) = true := by simpa using hF
      clear hFF
      go_wp2_with fail
      (with_reducible refine (awake_any _).mono ?_)
      rintro e w99 ⟨rfl, hb⟩
      go_wp2_with fail
      go_ret
      exact ⟨rfl, H4.out.below.trans (hb.mono H4.out.below.size)⟩
end Go.Proofs.Ytaioobhblfnlaaa
