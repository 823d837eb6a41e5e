/- TreatyKept: what the society keeps with any set of treaties, and whether any list is one that suffices for a price, are as the document says, or the error is: all truths are tried. For each programme, list and number. -/
import Derived.Test.YtaioobhblfnlaaaD6
namespace Go.Proofs.Ytaioobhblfnlaaa
open Go.RowKit


theorem kp_bad {p : Prg} {l : List Int} {pr : Int} (h : faultP p ≠ 0) : keptE p l = faultP p ∧ ((keptV p l).lo = 0 ∧ (keptV p l).hi = 0) ∧ proveB p l pr = false := by
  have h2 : keptE p l = faultP p := by rw [keptE, if_neg h]
  refine ⟨h2, by rw [keptV, if_neg (by rw [h2]; exact h)]; exact ⟨rfl, rfl⟩, by rw [proveB, decide_eq_false h, Bool.false_and]⟩
theorem kp_not {p : Prg} {l : List Int} {pr : Int} (h : faultP p = 0) (hs : setB p.ts l = false) : keptE p l = 2 ∧ ((keptV p l).lo = 0 ∧ (keptV p l).hi = 0) ∧ proveB p l pr = false := by
  have h2 : keptE p l = 2 := by rw [keptE, if_pos h, hs]; rfl
  refine ⟨h2, by rw [keptV, if_neg (by rw [h2]; decide)]; exact ⟨rfl, rfl⟩, by rw [proveB, hs, Bool.false_and, Bool.and_false]⟩
theorem kp_yes {p : Prg} {l : List Int} {pr : Int} (h : faultP p = 0) (hs : setB p.ts l = true) : keptE p l = 0 ∧ keptV p l = keptX p l ∧ proveB p l pr = (decide (priceL p.ts l ≤ pr) && decide ((keptX p l).hi ≤ p.reserve)) := by
  have h2 : keptE p l = 0 := by rw [keptE, if_pos h, hs]; rfl
  exact ⟨h2, by rw [keptV, if_pos h2], by rw [proveB, hs, decide_eq_true h, Bool.true_and, Bool.true_and]⟩
theorem price_set {p : Prg} (ok : OkP p) {l : List Int} (hs : setB p.ts l = true) : priceG (bitB ((setOf l l.length : Nat) : Int)) 0 p.ts = priceL p.ts l := by
  have hi := (setB_iff.1 hs).1
  have hm := ok.m5
  obtain ⟨k, hk, e⟩ := bitsL_onto (by omega) hi
  have h1 := setOf_bits (by omega) hi
  have h2 : setOf l l.length < 2 ^ p.ts.length := by
    refine Nat.lt_pow_two_of_testBit _ fun i hge => ?_
    rw [setOf_bit]
    refine Bool.eq_false_iff.2 fun hc => ?_
    rw [Bool.and_eq_true, decide_eq_true_eq, decide_eq_true_eq] at hc
    have := incr_mem hi _ hc.2
    omega
  rw [price_bits (by omega) h2, h1]

set_option maxRecDepth 40000 in
set_option maxHeartbeats 8000000 in
theorem treatyKept_any (p : Prg) (lp : Option Addr) (ln lc : Nat) (tp : Option Addr) (tn tc : Nat) (rp : Option Addr) (rn rc : Nat) (q : Option Addr) (m c : Nat) (l : List Int) (pr : Int) (w : World) (hp : PrgAt w p lp ln tp tn rp rn) (hl : IntsAt w q m l) : Calls Try.prog 5 #[.agg #[.slice lp ln lc, .int .i64 p.reserve, .slice tp tn tc, .slice rp rn rc], .slice q m c, .int .i64 pr] w fun e w' => e = .returned (.bool true) ∧ Below w.heap.size w w' := by
  have HQ := hid hl
  have HP := hid hp
  have HTH := hid (fun W (hW : Below w.heap.size w W) => thin_any p lp ln lc tp tn tc rp rn rc W (hp.below hW))
  have HFL := hid (fun W (hW : Below w.heap.size w W) => faultL_any p lp ln lc tp tn tc rp rn rc W (hp.below hW))
  have HRD := hid (fun W (hW : Below w.heap.size w W) => ready_any p lp ln lc tp tn tc rp rn rc W (hp.below hW))
  clear hp hl
  have H0 : Hid (Boxed1 w #[.slice lp ln lc, .int .i64 p.reserve, .slice tp tn tc, .slice rp rn rc] 26 (w.alloc (.cells #[.slice lp ln lc, .int .i64 p.reserve, .slice tp tn tc, .slice rp rn rc] 26))) := hid (Boxed1.start _ _ _)
  go_enter Try.func5, Try.ntmps5
  have e0 := H0.out.cell 0 (v := .slice lp ln lc) rfl; have e1 := H0.out.cell 1 (v := .int .i64 p.reserve) rfl; have e2 := H0.out.cell 2 (v := .slice tp tn tc) rfl; have e3 := H0.out.cell 3 (v := .slice rp rn rc) rfl
  go_wp2_with fail
  (with_reducible refine (HTH.out _ ?_).mono ?_)
  · exact H0.out.below
  rintro e w1 ⟨rfl, hb⟩
  have H1 := hid (H0.out.step hb)
  clear e0 e1 e2 e3 hb 
  cases hth : thinB p
  · clear hth
    go_wp2_with fail
    (with_reducible refine (awake_any _).mono ?_)
    rintro e w99 ⟨rfl, hb⟩
    go_wp2_with fail
    go_ret
    exact ⟨rfl, H1.out.below.trans (hb.mono H1.out.below.size)⟩
  · have HT3 := hid (thin_len hth)
    have hln : ln ≤ 7 := by have := HP.out.l.1; have := HT3.out.1; omega
    have htn : tn ≤ 8 := by have := HP.out.t.1; have := HT3.out.2.1; omega
    have hrn : rn ≤ 8 := by have := HP.out.r.1; have := HT3.out.2.2; omega
    clear hth
    by_cases h9 : 9 < m
    · have h9i : (9 : Int) < (m : Int) := by omega
      go_wp2_with fail
      (with_reducible refine (awake_any _).mono ?_)
      rintro e w99 ⟨rfl, hb⟩
      go_wp2_with fail
      go_ret
      exact ⟨rfl, H1.out.below.trans (hb.mono H1.out.below.size)⟩
    · have h9i : ¬ (9 : Int) < (m : Int) := by omega
      have e0 := H1.out.cell 0 (v := .slice lp ln lc) rfl; have e1 := H1.out.cell 1 (v := .int .i64 p.reserve) rfl; have e2 := H1.out.cell 2 (v := .slice tp tn tc) rfl; have e3 := H1.out.cell 3 (v := .slice rp rn rc) rfl
      go_wp2_with fail
      (with_reducible refine (prog_any p lp ln lc tp tn tc rp rn rc w1 (HP.out.below H1.out.below) (by omega) (by omega) (by omega)).mono ?_)
      rintro e w2 ⟨lq1, lc1, tq1, tc1, rq1, rc1, rfl, hpx, hcx, hb⟩
      have H2 := hid (H1.out.step hb)
      have HP1 := hid hpx; have HC1 := hid hcx
      clear e0 e1 e2 e3 hb hpx hcx
      go_wp2_with fail
      refine (list_any q m c l w2 (HQ.out.below H2.out.below) (by omega)).mono ?_
      rintro e w3 ⟨v, rfl, hown, hb⟩
      have H3 := hid (H2.out.step hb)
      replace HP1 := hid (HP1.out.below hb)
      obtain ⟨q1, d1, rfl, hi1⟩ := hown.slice
      rw [← HQ.out.1] at hi1 ⊢
      have HI1 := hid hi1
      clear hb hown hi1
      go_wp2_with fail
      refine (kept_any p lq1 ln lc1 tq1 tn tc1 rq1 rn rc1 q1 m d1 l w3 HP1.out HI1.out (by omega)).mono ?_
      rintro e w4 ⟨rfl, hb⟩
      have H4 := hid (H3.out.step hb)
      replace HP1 := hid (HP1.out.below hb)
      replace HI1 := hid (HI1.out.below hb)
      clear hb 
      obtain ⟨R, hR⟩ : ∃ R, keptV p l = R := ⟨_, rfl⟩
      obtain ⟨ke, hke⟩ : ∃ v, keptE p l = v := ⟨_, rfl⟩
      rw [hR, hke]
      have HRR := hid hR; have HKE := hid hke
      clear hR hke
      go_upto_region 4 with fail
      obtain ⟨w5, hw5⟩ : ∃ V, w4.alloc (.cells #[.int .i64 R.lo, .int .i64 R.hi] 51) = V := ⟨_, rfl⟩
      rw [hw5]
      have hb : Below w4.heap.size w4 w5 := by rw [← hw5]; exact (Below.refl _ _).alloc (Nat.le_refl _) _
      have HX : Hid (BoxIs w4.heap.size #[.int .i64 R.lo, .int .i64 R.hi] w5) := hid (by rw [← hw5]; exact BoxIs.start _ _ _)
      clear hw5
      have H5 := hid (H4.out.step hb)
      clear hb
      have e0 := H5.out.cell 0 (v := .slice lp ln lc) rfl; have e1 := H5.out.cell 1 (v := .int .i64 p.reserve) rfl; have e2 := H5.out.cell 2 (v := .slice tp tn tc) rfl; have e3 := H5.out.cell 3 (v := .slice rp rn rc) rfl
      go_wp2_with fail
      (with_reducible refine (prog_any p lp ln lc tp tn tc rp rn rc w5 (HP.out.below H5.out.below) (by omega) (by omega) (by omega)).mono ?_)
      rintro e w6 ⟨lq2, lc2, tq2, tc2, rq2, rc2, rfl, hpx, hcx, hb⟩
      have H6 := hid (H5.out.step hb)
      replace HX := hid (HX.out.below hb)
      have HP2 := hid hpx; have HC2 := hid hcx
      clear e0 e1 e2 e3 hb hpx hcx
      go_wp2_with fail
      refine (list_any q m c l w6 (HQ.out.below H6.out.below) (by omega)).mono ?_
      rintro e w7 ⟨v, rfl, hown, hb⟩
      have H7 := hid (H6.out.step hb)
      replace HX := hid (HX.out.below hb)
      replace HP2 := hid (HP2.out.below hb)
      obtain ⟨q2, d2, rfl, hi1⟩ := hown.slice
      rw [← HQ.out.1] at hi1 ⊢
      have HI2 := hid hi1
      clear hb hown hi1
      go_wp2_with fail
      refine (prove_any p lq2 ln lc2 tq2 tn tc2 rq2 rn rc2 q2 m d2 l pr w7 HP2.out HI2.out (by omega)).mono ?_
      rintro e w8 ⟨rfl, hb⟩
      have H8 := hid (H7.out.step hb)
      replace HX := hid (HX.out.below hb)
      replace HP2 := hid (HP2.out.below hb)
      replace HI2 := hid (HI2.out.below hb)
      clear hb 
      obtain ⟨pb, hpb⟩ : ∃ v, proveB p l pr = v := ⟨_, rfl⟩
      rw [hpb]
      have HPB := hid hpb
      clear hpb
      have e0 := H8.out.cell 0 (v := .slice lp ln lc) rfl; have e1 := H8.out.cell 1 (v := .int .i64 p.reserve) rfl; have e2 := H8.out.cell 2 (v := .slice tp tn tc) rfl; have e3 := H8.out.cell 3 (v := .slice rp rn rc) rfl
      go_wp2_with fail
      (with_reducible refine (HFL.out _ ?_).mono ?_)
      · exact H8.out.below
      rintro e w9 ⟨rfl, hb⟩
      have H9 := hid (H8.out.step hb)
      replace HX := hid (HX.out.below hb)
      clear e0 e1 e2 e3 hb 
      by_cases hF : faultP p = 0
      · have HOK := hid (fault_iff.1 hF)
        have HF0 := hid hF
        rw [hF]
        clear hF
        have htn5 : tn ≤ 5 := by have := HP.out.t.1; have := HOK.out.m5; omega
        have e0 := H9.out.cell 0 (v := .slice lp ln lc) rfl; have e1 := H9.out.cell 1 (v := .int .i64 p.reserve) rfl; have e2 := H9.out.cell 2 (v := .slice tp tn tc) rfl; have e3 := H9.out.cell 3 (v := .slice rp rn rc) rfl
        go_wp2_with fail
        refine (isSet_any p lp ln lc tp tn tc rp rn rc q m c l w9 (HP.out.below H9.out.below) (HQ.out.below H9.out.below) htn5 (by omega)).mono ?_
        rintro e w10 ⟨rfl, hb⟩
        have H10 := hid (H9.out.step hb)
        replace HX := hid (HX.out.below hb)
        clear e0 e1 e2 e3 hb 
        cases hs : setB p.ts l
        · have hn := kp_not (pr := pr) HF0.out hs
          clear hs
          simp only [Bool.false_eq_true, if_false]
          have h0 : R.lo = 0 ∧ R.hi = 0 := by rw [← HRR.out]; exact hn.2.1
          rw [h0.1, h0.2] at HX
          have he0 : ke = 2 := by rw [← HKE.out, hn.1]
          have hp0 : pb = false := by rw [← HPB.out, hn.2.2]
          subst he0 hp0
          have x0 := (HX.out.2 0 (.int .i64 0) rfl).1; have x1 := (HX.out.2 1 (.int .i64 0) rfl).1
          clear h0 hn HRR HKE HPB
          go_wp2_with fail
          (with_reducible refine (awake_any _).mono ?_)
          rintro e w99 ⟨rfl, hb⟩
          go_wp2_with fail
          go_ret
          exact ⟨rfl, H10.out.below.trans (hb.mono H10.out.below.size)⟩
        · have hn := kp_yes (pr := pr) HF0.out hs
          have HPS := hid (price_set HOK.out hs)
          have HKS := hid (kept_setOf HOK.out.m5 l)
          simp only [if_true]
          have he0 : ke = 0 := by rw [← HKE.out, hn.1]
          subst he0
          have HRX : Hid (keptX p l = R) := hid (by rw [← HRR.out, hn.2.1])
          have HPV : Hid (pb = (decide (priceL p.ts l ≤ pr) && decide ((keptX p l).hi ≤ p.reserve))) := hid (by rw [← HPB.out, hn.2.2])
          obtain ⟨S, hS0⟩ : ∃ S, setOf l l.length = S := ⟨_, rfl⟩
          have hS4 : S < 4096 := by rw [← hS0]; exact setOf_lt _ _
          rw [hS0] at HPS HKS ⊢
          clear hs hn hS0 HRR HKE HPB
          have e0 := H10.out.cell 0 (v := .slice lp ln lc) rfl; have e1 := H10.out.cell 1 (v := .int .i64 p.reserve) rfl; have e2 := H10.out.cell 2 (v := .slice tp tn tc) rfl; have e3 := H10.out.cell 3 (v := .slice rp rn rc) rfl
          go_wp2_with fail
          refine (keptR_any p lp ln lc tp tn tc rp rn rc (S : Int) w10 (HP.out.below H10.out.below) HOK.out (by omega) (by omega)).mono ?_
          rintro e w11 ⟨rfl, hb⟩
          have H11 := hid (H10.out.step hb)
          replace HX := hid (HX.out.below hb)
          rw [HKS.out, HRX.out]
          clear e0 e1 e2 e3 hb 
          rw [HRX.out] at HPV
          obtain ⟨PL, hPL⟩ : ∃ v, priceL p.ts l = v := ⟨_, rfl⟩
          rw [hPL] at HPV HPS
          clear hPL HKS HRX
          go_upto_region 12 with fail
          obtain ⟨w12, hw12⟩ : ∃ V, w11.alloc (.cells #[.int .i64 R.lo, .int .i64 R.hi] 55) = V := ⟨_, rfl⟩
          rw [hw12]
          have hb : Below w11.heap.size w11 w12 := by rw [← hw12]; exact (Below.refl _ _).alloc (Nat.le_refl _) _
          have HY : Hid (BoxIs w11.heap.size #[.int .i64 R.lo, .int .i64 R.hi] w12) := hid (by rw [← hw12]; exact BoxIs.start _ _ _)
          clear hw12
          have H12 := hid (H11.out.step hb)
          replace HX := hid (HX.out.below hb)
          clear hb
          have HPC := hid HOK.out.prices
          by_cases hh : R.hi ≤ p.reserve
          · by_cases hp : PL ≤ pr
            · have hpb : pb = true := by rw [HPV.out]; simp [hh, hp]
              subst hpb
              clear HPV
              refine wp_region_held_drew (S := fun V => Boxed1 w #[.slice lp ln lc, .int .i64 p.reserve, .slice tp tn tc, .slice rp rn rc] 26 V ∧ Below w12.heap.size w12 V) (by kernel_rfl) (⟨H12.out.drew, (Below.refl _ _).drew⟩) (fun hS => ?_)
              simp only [List.size_toArray, List.length_cons, List.length_nil, Nat.reduceAdd, Array.replicate_succ, Array.replicate_zero, List.push_toArray, List.nil_append, List.cons_append]
              refine tkH (i := 0) (v := ?_) (fun V hV => ?_) ?_
              rotate_left
              · go_simp
                try with_reducible rfl
              try simp only [Act.put, List.getElem_toArray, List.getElem_cons_zero, List.setIfInBounds_toArray, List.set_cons_zero, List.set_cons_succ]
              refine tkH (i := 1) (v := ?_) (fun V hV => ?_) ?_
              rotate_left
              · go_simp
                try with_reducible rfl
              try simp only [Act.put, List.getElem_toArray, List.getElem_cons_zero, List.getElem_cons_succ, List.setIfInBounds_toArray, List.set_cons_zero, List.set_cons_succ]
              refine tkH (i := 2) (v := ?_) (fun V hV => ?_) ?_
              rotate_left
              · go_simp
                try with_reducible rfl
              try simp only [Act.put, List.getElem_toArray, List.getElem_cons_zero, List.getElem_cons_succ, List.setIfInBounds_toArray, List.set_cons_zero, List.set_cons_succ]
              refine tkH (i := 3) (v := ?_) (fun V hV => ?_) ?_
              rotate_left
              · have hX := HX.out.below hV.2; have x0 := (hX.2 0 (.int .i64 R.lo) rfl).1; have x1 := (hX.2 1 (.int .i64 R.hi) rfl).1; go_simp
                try with_reducible rfl
              try simp only [Act.put, List.getElem_toArray, List.getElem_cons_zero, List.getElem_cons_succ, List.setIfInBounds_toArray, List.set_cons_zero, List.set_cons_succ]
              refine tkH (i := 4) (v := ?_) (fun V hV => ?_) ?_
              rotate_left
              · have hX := HY.out.below hV.2; have x0 := (hX.2 0 (.int .i64 R.lo) rfl).1; have x1 := (hX.2 1 (.int .i64 R.hi) rfl).1; go_simp
                try with_reducible rfl
              try simp only [Act.put, List.getElem_toArray, List.getElem_cons_zero, List.getElem_cons_succ, List.setIfInBounds_toArray, List.set_cons_zero, List.set_cons_succ]
              refine wpAnyH_ready (rs := [5]) (by kernel_rfl) (by simp) ?_
              refine AllReadyH.cons (o := _) rfl (fun K hK => ?_) AllReadyH.nil
              go_simp
              (with_reducible refine (to_any R _).mono ?_)
              rintro e v5 ⟨rfl, hb⟩
              refine hK.out _ _ (⟨hS.1.step hb, hS.2.trans (hb.mono hS.2.size)⟩) (fun hS => ?_)
              clear hK K
              try simp only [List.setIfInBounds_toArray, List.set_cons_zero, List.set_cons_succ]
              refine tkH (i := 6) (v := ?_) (fun V hV => ?_) ?_
              rotate_left
              · go_simp
                try with_reducible rfl
              try simp only [Act.put, List.getElem_toArray, List.getElem_cons_zero, List.getElem_cons_succ, List.setIfInBounds_toArray, List.set_cons_zero, List.set_cons_succ]
              refine tkH (i := 7) (v := ?_) (fun V hV => ?_) ?_
              rotate_left
              · go_simp
                try with_reducible rfl
              try simp only [Act.put, List.getElem_toArray, List.getElem_cons_zero, List.getElem_cons_succ, List.setIfInBounds_toArray, List.set_cons_zero, List.set_cons_succ]
              refine tkH (i := 8) (v := ?_) (fun V hV => ?_) ?_
              rotate_left
              · go_simp
                try with_reducible rfl
              try simp only [Act.put, List.getElem_toArray, List.getElem_cons_zero, List.getElem_cons_succ, List.setIfInBounds_toArray, List.set_cons_zero, List.set_cons_succ]
              refine tkH (i := 9) (v := ?_) (fun V hV => ?_) ?_
              rotate_left
              · go_simp
                try with_reducible rfl
              try simp only [Act.put, List.getElem_toArray, List.getElem_cons_zero, List.getElem_cons_succ, List.setIfInBounds_toArray, List.set_cons_zero, List.set_cons_succ]
              refine tkH (i := 10) (v := ?_) (fun V hV => ?_) ?_
              rotate_left
              · go_simp
                try with_reducible rfl
              try simp only [Act.put, List.getElem_toArray, List.getElem_cons_zero, List.getElem_cons_succ, List.setIfInBounds_toArray, List.set_cons_zero, List.set_cons_succ]
              refine tkH (i := 11) (v := ?_) (fun V hV => ?_) ?_
              rotate_left
              · have hX := HY.out.below hV.2; have x0 := (hX.2 0 (.int .i64 R.lo) rfl).1; have x1 := (hX.2 1 (.int .i64 R.hi) rfl).1; go_simp
                try with_reducible rfl
              try simp only [Act.put, List.getElem_toArray, List.getElem_cons_zero, List.getElem_cons_succ, List.setIfInBounds_toArray, List.set_cons_zero, List.set_cons_succ]
              refine tkH (i := 12) (v := ?_) (fun V hV => ?_) ?_
              rotate_left
              · go_simp
                try with_reducible rfl
              try simp only [Act.put, List.getElem_toArray, List.getElem_cons_zero, List.getElem_cons_succ, List.setIfInBounds_toArray, List.set_cons_zero, List.set_cons_succ]
              refine tkH (i := 13) (v := ?_) (fun V hV => ?_) ?_
              rotate_left
              · have e0 := hV.1.cell 0 (v := .slice lp ln lc) rfl; have e1 := hV.1.cell 1 (v := .int .i64 p.reserve) rfl; have e2 := hV.1.cell 2 (v := .slice tp tn tc) rfl; have e3 := hV.1.cell 3 (v := .slice rp rn rc) rfl; go_simp
                try with_reducible rfl
              try simp only [Act.put, List.getElem_toArray, List.getElem_cons_zero, List.getElem_cons_succ, List.setIfInBounds_toArray, List.set_cons_zero, List.set_cons_succ]
              refine tkH (i := 14) (v := ?_) (fun V hV => ?_) ?_
              rotate_left
              · go_simp
                try with_reducible rfl
              try simp only [Act.put, List.getElem_toArray, List.getElem_cons_zero, List.getElem_cons_succ, List.setIfInBounds_toArray, List.set_cons_zero, List.set_cons_succ]
              refine tkH (i := 15) (v := ?_) (fun V hV => ?_) ?_
              rotate_left
              · go_simp
                try with_reducible rfl
              try simp only [Act.put, List.getElem_toArray, List.getElem_cons_zero, List.getElem_cons_succ, List.setIfInBounds_toArray, List.set_cons_zero, List.set_cons_succ]
              refine tkH (i := 16) (v := ?_) (fun V hV => ?_) ?_
              rotate_left
              · have e0 := hV.1.cell 0 (v := .slice lp ln lc) rfl; have e1 := hV.1.cell 1 (v := .int .i64 p.reserve) rfl; have e2 := hV.1.cell 2 (v := .slice tp tn tc) rfl; have e3 := hV.1.cell 3 (v := .slice rp rn rc) rfl; go_simp
                try with_reducible rfl
              try simp only [Act.put, List.getElem_toArray, List.getElem_cons_zero, List.getElem_cons_succ, List.setIfInBounds_toArray, List.set_cons_zero, List.set_cons_succ]
              refine tkH (i := 17) (v := ?_) (fun V hV => ?_) ?_
              rotate_left
              · go_simp
                try with_reducible rfl
              try simp only [Act.put, List.getElem_toArray, List.getElem_cons_zero, List.getElem_cons_succ, List.setIfInBounds_toArray, List.set_cons_zero, List.set_cons_succ]
              refine tkH (i := 19) (v := ?_) (fun V hV => ?_) ?_
              rotate_left
              · go_simp
                try with_reducible rfl
              try simp only [Act.put, List.getElem_toArray, List.getElem_cons_zero, List.getElem_cons_succ, List.setIfInBounds_toArray, List.set_cons_zero, List.set_cons_succ]
              refine wpAnyH_ready (rs := [18]) (by kernel_rfl) (by simp) ?_
              refine AllReadyH.cons (o := _) rfl (fun K hK => ?_) AllReadyH.nil
              go_simp
              (with_reducible refine (price_any p lp ln lc tp tn tc rp rn rc (S : Int) _ (HP.out.below hS.1.below) htn5 (by omega) (by omega) HPC.out).mono ?_)
              rintro e v18 ⟨rfl, hb⟩
              rw [HPS.out]
              refine hK.out _ _ (⟨hS.1.step hb, hS.2.trans (hb.mono hS.2.size)⟩) (fun hS => ?_)
              clear hK K
              try simp only [List.setIfInBounds_toArray, List.set_cons_zero, List.set_cons_succ]
              refine tkH (i := 20) (v := ?_) (fun V hV => ?_) ?_
              rotate_left
              · go_simp
                try with_reducible rfl
              try simp only [Act.put, List.getElem_toArray, List.getElem_cons_zero, List.getElem_cons_succ, List.setIfInBounds_toArray, List.set_cons_zero, List.set_cons_succ]
              refine tkH (i := 21) (v := ?_) (fun V hV => ?_) ?_
              rotate_left
              · go_simp
                try with_reducible rfl
              try simp only [Act.put, List.getElem_toArray, List.getElem_cons_zero, List.getElem_cons_succ, List.setIfInBounds_toArray, List.set_cons_zero, List.set_cons_succ]
              refine tkH (i := 22) (v := ?_) (fun V hV => ?_) ?_
              rotate_left
              · go_simp
                try with_reducible rfl
              try simp only [Act.put, List.getElem_toArray, List.getElem_cons_zero, List.getElem_cons_succ, List.setIfInBounds_toArray, List.set_cons_zero, List.set_cons_succ]
              refine tkH (i := 23) (v := ?_) (fun V hV => ?_) ?_
              rotate_left
              · go_simp
                try with_reducible rfl
              try simp only [Act.put, List.getElem_toArray, List.getElem_cons_zero, List.getElem_cons_succ, List.setIfInBounds_toArray, List.set_cons_zero, List.set_cons_succ]
              refine tkH (i := 24) (v := ?_) (fun V hV => ?_) ?_
              rotate_left
              · go_simp
                try with_reducible rfl
              try simp only [Act.put, List.getElem_toArray, List.getElem_cons_zero, List.getElem_cons_succ, List.setIfInBounds_toArray, List.set_cons_zero, List.set_cons_succ]
              refine wpAnyH_ready (rs := [25]) (by kernel_rfl) (by simp) ?_
              refine AllReadyH.cons (o := _) rfl (fun K hK => ?_) AllReadyH.nil
              go_simp
              (with_reducible refine (awake_any _).mono ?_)
              rintro e v25 ⟨rfl, hb⟩
              refine hK.out _ _ (⟨hS.1.step hb, hS.2.trans (hb.mono hS.2.size)⟩) (fun hS => ?_)
              clear hK K
              try simp only [List.setIfInBounds_toArray, List.set_cons_zero, List.set_cons_succ]
              refine tkH (i := 26) (v := ?_) (fun V hV => ?_) ?_
              rotate_left
              · go_simp
                try with_reducible rfl
              try simp only [Act.put, List.getElem_toArray, List.getElem_cons_zero, List.getElem_cons_succ, List.setIfInBounds_toArray, List.set_cons_zero, List.set_cons_succ]
              refine tkH (i := 27) (v := ?_) (fun V hV => ?_) ?_
              rotate_left
              · go_simp
                try with_reducible rfl
              try simp only [Act.put, List.getElem_toArray, List.getElem_cons_zero, List.getElem_cons_succ, List.setIfInBounds_toArray, List.set_cons_zero, List.set_cons_succ]
              refine wpAnyH_done (by kernel_rfl) ?_ _
              have HS9 := hid hS.1
              clear hS
              go_wp2_with fail
              go_ret
              exact ⟨rfl, HS9.out.below⟩
            · have hpb : pb = false := by rw [HPV.out]; simp [hh, hp]
              subst hpb
              clear HPV
              refine wp_region_held_drew (S := fun V => Boxed1 w #[.slice lp ln lc, .int .i64 p.reserve, .slice tp tn tc, .slice rp rn rc] 26 V ∧ Below w12.heap.size w12 V) (by kernel_rfl) (⟨H12.out.drew, (Below.refl _ _).drew⟩) (fun hS => ?_)
              simp only [List.size_toArray, List.length_cons, List.length_nil, Nat.reduceAdd, Array.replicate_succ, Array.replicate_zero, List.push_toArray, List.nil_append, List.cons_append]
              refine tkH (i := 0) (v := ?_) (fun V hV => ?_) ?_
              rotate_left
              · go_simp
                try with_reducible rfl
              try simp only [Act.put, List.getElem_toArray, List.getElem_cons_zero, List.setIfInBounds_toArray, List.set_cons_zero, List.set_cons_succ]
              refine tkH (i := 1) (v := ?_) (fun V hV => ?_) ?_
              rotate_left
              · go_simp
                try with_reducible rfl
              try simp only [Act.put, List.getElem_toArray, List.getElem_cons_zero, List.getElem_cons_succ, List.setIfInBounds_toArray, List.set_cons_zero, List.set_cons_succ]
              refine tkH (i := 2) (v := ?_) (fun V hV => ?_) ?_
              rotate_left
              · go_simp
                try with_reducible rfl
              try simp only [Act.put, List.getElem_toArray, List.getElem_cons_zero, List.getElem_cons_succ, List.setIfInBounds_toArray, List.set_cons_zero, List.set_cons_succ]
              refine tkH (i := 3) (v := ?_) (fun V hV => ?_) ?_
              rotate_left
              · have hX := HX.out.below hV.2; have x0 := (hX.2 0 (.int .i64 R.lo) rfl).1; have x1 := (hX.2 1 (.int .i64 R.hi) rfl).1; go_simp
                try with_reducible rfl
              try simp only [Act.put, List.getElem_toArray, List.getElem_cons_zero, List.getElem_cons_succ, List.setIfInBounds_toArray, List.set_cons_zero, List.set_cons_succ]
              refine tkH (i := 4) (v := ?_) (fun V hV => ?_) ?_
              rotate_left
              · have hX := HY.out.below hV.2; have x0 := (hX.2 0 (.int .i64 R.lo) rfl).1; have x1 := (hX.2 1 (.int .i64 R.hi) rfl).1; go_simp
                try with_reducible rfl
              try simp only [Act.put, List.getElem_toArray, List.getElem_cons_zero, List.getElem_cons_succ, List.setIfInBounds_toArray, List.set_cons_zero, List.set_cons_succ]
              refine wpAnyH_ready (rs := [5]) (by kernel_rfl) (by simp) ?_
              refine AllReadyH.cons (o := _) rfl (fun K hK => ?_) AllReadyH.nil
              go_simp
              (with_reducible refine (to_any R _).mono ?_)
              rintro e v5 ⟨rfl, hb⟩
              refine hK.out _ _ (⟨hS.1.step hb, hS.2.trans (hb.mono hS.2.size)⟩) (fun hS => ?_)
              clear hK K
              try simp only [List.setIfInBounds_toArray, List.set_cons_zero, List.set_cons_succ]
              refine tkH (i := 6) (v := ?_) (fun V hV => ?_) ?_
              rotate_left
              · go_simp
                try with_reducible rfl
              try simp only [Act.put, List.getElem_toArray, List.getElem_cons_zero, List.getElem_cons_succ, List.setIfInBounds_toArray, List.set_cons_zero, List.set_cons_succ]
              refine tkH (i := 7) (v := ?_) (fun V hV => ?_) ?_
              rotate_left
              · go_simp
                try with_reducible rfl
              try simp only [Act.put, List.getElem_toArray, List.getElem_cons_zero, List.getElem_cons_succ, List.setIfInBounds_toArray, List.set_cons_zero, List.set_cons_succ]
              refine tkH (i := 8) (v := ?_) (fun V hV => ?_) ?_
              rotate_left
              · go_simp
                try with_reducible rfl
              try simp only [Act.put, List.getElem_toArray, List.getElem_cons_zero, List.getElem_cons_succ, List.setIfInBounds_toArray, List.set_cons_zero, List.set_cons_succ]
              refine tkH (i := 9) (v := ?_) (fun V hV => ?_) ?_
              rotate_left
              · go_simp
                try with_reducible rfl
              try simp only [Act.put, List.getElem_toArray, List.getElem_cons_zero, List.getElem_cons_succ, List.setIfInBounds_toArray, List.set_cons_zero, List.set_cons_succ]
              refine tkH (i := 10) (v := ?_) (fun V hV => ?_) ?_
              rotate_left
              · go_simp
                try with_reducible rfl
              try simp only [Act.put, List.getElem_toArray, List.getElem_cons_zero, List.getElem_cons_succ, List.setIfInBounds_toArray, List.set_cons_zero, List.set_cons_succ]
              refine tkH (i := 11) (v := ?_) (fun V hV => ?_) ?_
              rotate_left
              · have hX := HY.out.below hV.2; have x0 := (hX.2 0 (.int .i64 R.lo) rfl).1; have x1 := (hX.2 1 (.int .i64 R.hi) rfl).1; go_simp
                try with_reducible rfl
              try simp only [Act.put, List.getElem_toArray, List.getElem_cons_zero, List.getElem_cons_succ, List.setIfInBounds_toArray, List.set_cons_zero, List.set_cons_succ]
              refine tkH (i := 12) (v := ?_) (fun V hV => ?_) ?_
              rotate_left
              · go_simp
                try with_reducible rfl
              try simp only [Act.put, List.getElem_toArray, List.getElem_cons_zero, List.getElem_cons_succ, List.setIfInBounds_toArray, List.set_cons_zero, List.set_cons_succ]
              refine tkH (i := 13) (v := ?_) (fun V hV => ?_) ?_
              rotate_left
              · have e0 := hV.1.cell 0 (v := .slice lp ln lc) rfl; have e1 := hV.1.cell 1 (v := .int .i64 p.reserve) rfl; have e2 := hV.1.cell 2 (v := .slice tp tn tc) rfl; have e3 := hV.1.cell 3 (v := .slice rp rn rc) rfl; go_simp
                try with_reducible rfl
              try simp only [Act.put, List.getElem_toArray, List.getElem_cons_zero, List.getElem_cons_succ, List.setIfInBounds_toArray, List.set_cons_zero, List.set_cons_succ]
              refine tkH (i := 14) (v := ?_) (fun V hV => ?_) ?_
              rotate_left
              · go_simp
                try with_reducible rfl
              try simp only [Act.put, List.getElem_toArray, List.getElem_cons_zero, List.getElem_cons_succ, List.setIfInBounds_toArray, List.set_cons_zero, List.set_cons_succ]
              refine tkH (i := 15) (v := ?_) (fun V hV => ?_) ?_
              rotate_left
              · go_simp
                try with_reducible rfl
              try simp only [Act.put, List.getElem_toArray, List.getElem_cons_zero, List.getElem_cons_succ, List.setIfInBounds_toArray, List.set_cons_zero, List.set_cons_succ]
              refine tkH (i := 16) (v := ?_) (fun V hV => ?_) ?_
              rotate_left
              · have e0 := hV.1.cell 0 (v := .slice lp ln lc) rfl; have e1 := hV.1.cell 1 (v := .int .i64 p.reserve) rfl; have e2 := hV.1.cell 2 (v := .slice tp tn tc) rfl; have e3 := hV.1.cell 3 (v := .slice rp rn rc) rfl; go_simp
                try with_reducible rfl
              try simp only [Act.put, List.getElem_toArray, List.getElem_cons_zero, List.getElem_cons_succ, List.setIfInBounds_toArray, List.set_cons_zero, List.set_cons_succ]
              refine tkH (i := 17) (v := ?_) (fun V hV => ?_) ?_
              rotate_left
              · go_simp
                try with_reducible rfl
              try simp only [Act.put, List.getElem_toArray, List.getElem_cons_zero, List.getElem_cons_succ, List.setIfInBounds_toArray, List.set_cons_zero, List.set_cons_succ]
              refine tkH (i := 19) (v := ?_) (fun V hV => ?_) ?_
              rotate_left
              · go_simp
                try with_reducible rfl
              try simp only [Act.put, List.getElem_toArray, List.getElem_cons_zero, List.getElem_cons_succ, List.setIfInBounds_toArray, List.set_cons_zero, List.set_cons_succ]
              refine wpAnyH_ready (rs := [18]) (by kernel_rfl) (by simp) ?_
              refine AllReadyH.cons (o := _) rfl (fun K hK => ?_) AllReadyH.nil
              go_simp
              (with_reducible refine (price_any p lp ln lc tp tn tc rp rn rc (S : Int) _ (HP.out.below hS.1.below) htn5 (by omega) (by omega) HPC.out).mono ?_)
              rintro e v18 ⟨rfl, hb⟩
              rw [HPS.out]
              refine hK.out _ _ (⟨hS.1.step hb, hS.2.trans (hb.mono hS.2.size)⟩) (fun hS => ?_)
              clear hK K
              try simp only [List.setIfInBounds_toArray, List.set_cons_zero, List.set_cons_succ]
              refine tkH (i := 20) (v := ?_) (fun V hV => ?_) ?_
              rotate_left
              · go_simp
                try with_reducible rfl
              try simp only [Act.put, List.getElem_toArray, List.getElem_cons_zero, List.getElem_cons_succ, List.setIfInBounds_toArray, List.set_cons_zero, List.set_cons_succ]
              refine tkH (i := 21) (v := ?_) (fun V hV => ?_) ?_
              rotate_left
              · go_simp
                try with_reducible rfl
              try simp only [Act.put, List.getElem_toArray, List.getElem_cons_zero, List.getElem_cons_succ, List.setIfInBounds_toArray, List.set_cons_zero, List.set_cons_succ]
              refine tkH (i := 22) (v := ?_) (fun V hV => ?_) ?_
              rotate_left
              · go_simp
                try with_reducible rfl
              try simp only [Act.put, List.getElem_toArray, List.getElem_cons_zero, List.getElem_cons_succ, List.setIfInBounds_toArray, List.set_cons_zero, List.set_cons_succ]
              refine tkH (i := 23) (v := ?_) (fun V hV => ?_) ?_
              rotate_left
              · go_simp
                try with_reducible rfl
              try simp only [Act.put, List.getElem_toArray, List.getElem_cons_zero, List.getElem_cons_succ, List.setIfInBounds_toArray, List.set_cons_zero, List.set_cons_succ]
              refine tkH (i := 24) (v := ?_) (fun V hV => ?_) ?_
              rotate_left
              · go_simp
                try with_reducible rfl
              try simp only [Act.put, List.getElem_toArray, List.getElem_cons_zero, List.getElem_cons_succ, List.setIfInBounds_toArray, List.set_cons_zero, List.set_cons_succ]
              refine wpAnyH_ready (rs := [25]) (by kernel_rfl) (by simp) ?_
              refine AllReadyH.cons (o := _) rfl (fun K hK => ?_) AllReadyH.nil
              go_simp
              (with_reducible refine (awake_any _).mono ?_)
              rintro e v25 ⟨rfl, hb⟩
              refine hK.out _ _ (⟨hS.1.step hb, hS.2.trans (hb.mono hS.2.size)⟩) (fun hS => ?_)
              clear hK K
              try simp only [List.setIfInBounds_toArray, List.set_cons_zero, List.set_cons_succ]
              refine tkH (i := 26) (v := ?_) (fun V hV => ?_) ?_
              rotate_left
              · go_simp
                try with_reducible rfl
              try simp only [Act.put, List.getElem_toArray, List.getElem_cons_zero, List.getElem_cons_succ, List.setIfInBounds_toArray, List.set_cons_zero, List.set_cons_succ]
              refine tkH (i := 27) (v := ?_) (fun V hV => ?_) ?_
              rotate_left
              · go_simp
                try with_reducible rfl
              try simp only [Act.put, List.getElem_toArray, List.getElem_cons_zero, List.getElem_cons_succ, List.setIfInBounds_toArray, List.set_cons_zero, List.set_cons_succ]
              refine wpAnyH_done (by kernel_rfl) ?_ _
              have HS9 := hid hS.1
              clear hS
              go_wp2_with fail
              go_ret
              exact ⟨rfl, HS9.out.below⟩
          · have hpb : pb = false := by rw [HPV.out]; simp [hh]
            subst hpb
            clear HPV
            refine wp_region_held_drew (S := fun V => Boxed1 w #[.slice lp ln lc, .int .i64 p.reserve, .slice tp tn tc, .slice rp rn rc] 26 V ∧ Below w12.heap.size w12 V) (by kernel_rfl) (⟨H12.out.drew, (Below.refl _ _).drew⟩) (fun hS => ?_)
            simp only [List.size_toArray, List.length_cons, List.length_nil, Nat.reduceAdd, Array.replicate_succ, Array.replicate_zero, List.push_toArray, List.nil_append, List.cons_append]
            refine tkH (i := 0) (v := ?_) (fun V hV => ?_) ?_
            rotate_left
            · go_simp
              try with_reducible rfl
            try simp only [Act.put, List.getElem_toArray, List.getElem_cons_zero, List.setIfInBounds_toArray, List.set_cons_zero, List.set_cons_succ]
            refine tkH (i := 1) (v := ?_) (fun V hV => ?_) ?_
            rotate_left
            · go_simp
              try with_reducible rfl
            try simp only [Act.put, List.getElem_toArray, List.getElem_cons_zero, List.getElem_cons_succ, List.setIfInBounds_toArray, List.set_cons_zero, List.set_cons_succ]
            refine tkH (i := 2) (v := ?_) (fun V hV => ?_) ?_
            rotate_left
            · go_simp
              try with_reducible rfl
            try simp only [Act.put, List.getElem_toArray, List.getElem_cons_zero, List.getElem_cons_succ, List.setIfInBounds_toArray, List.set_cons_zero, List.set_cons_succ]
            refine tkH (i := 3) (v := ?_) (fun V hV => ?_) ?_
            rotate_left
            · have hX := HX.out.below hV.2; have x0 := (hX.2 0 (.int .i64 R.lo) rfl).1; have x1 := (hX.2 1 (.int .i64 R.hi) rfl).1; go_simp
              try with_reducible rfl
            try simp only [Act.put, List.getElem_toArray, List.getElem_cons_zero, List.getElem_cons_succ, List.setIfInBounds_toArray, List.set_cons_zero, List.set_cons_succ]
            refine tkH (i := 4) (v := ?_) (fun V hV => ?_) ?_
            rotate_left
            · have hX := HY.out.below hV.2; have x0 := (hX.2 0 (.int .i64 R.lo) rfl).1; have x1 := (hX.2 1 (.int .i64 R.hi) rfl).1; go_simp
              try with_reducible rfl
            try simp only [Act.put, List.getElem_toArray, List.getElem_cons_zero, List.getElem_cons_succ, List.setIfInBounds_toArray, List.set_cons_zero, List.set_cons_succ]
            refine wpAnyH_ready (rs := [5]) (by kernel_rfl) (by simp) ?_
            refine AllReadyH.cons (o := _) rfl (fun K hK => ?_) AllReadyH.nil
            go_simp
            (with_reducible refine (to_any R _).mono ?_)
            rintro e v5 ⟨rfl, hb⟩
            refine hK.out _ _ (⟨hS.1.step hb, hS.2.trans (hb.mono hS.2.size)⟩) (fun hS => ?_)
            clear hK K
            try simp only [List.setIfInBounds_toArray, List.set_cons_zero, List.set_cons_succ]
            refine tkH (i := 6) (v := ?_) (fun V hV => ?_) ?_
            rotate_left
            · go_simp
              try with_reducible rfl
            try simp only [Act.put, List.getElem_toArray, List.getElem_cons_zero, List.getElem_cons_succ, List.setIfInBounds_toArray, List.set_cons_zero, List.set_cons_succ]
            refine tkH (i := 7) (v := ?_) (fun V hV => ?_) ?_
            rotate_left
            · go_simp
              try with_reducible rfl
            try simp only [Act.put, List.getElem_toArray, List.getElem_cons_zero, List.getElem_cons_succ, List.setIfInBounds_toArray, List.set_cons_zero, List.set_cons_succ]
            refine tkH (i := 8) (v := ?_) (fun V hV => ?_) ?_
            rotate_left
            · go_simp
              try with_reducible rfl
            try simp only [Act.put, List.getElem_toArray, List.getElem_cons_zero, List.getElem_cons_succ, List.setIfInBounds_toArray, List.set_cons_zero, List.set_cons_succ]
            refine tkH (i := 9) (v := ?_) (fun V hV => ?_) ?_
            rotate_left
            · go_simp
              try with_reducible rfl
            try simp only [Act.put, List.getElem_toArray, List.getElem_cons_zero, List.getElem_cons_succ, List.setIfInBounds_toArray, List.set_cons_zero, List.set_cons_succ]
            refine tkH (i := 10) (v := ?_) (fun V hV => ?_) ?_
            rotate_left
            · go_simp
              try with_reducible rfl
            try simp only [Act.put, List.getElem_toArray, List.getElem_cons_zero, List.getElem_cons_succ, List.setIfInBounds_toArray, List.set_cons_zero, List.set_cons_succ]
            refine tkH (i := 11) (v := ?_) (fun V hV => ?_) ?_
            rotate_left
            · have hX := HY.out.below hV.2; have x0 := (hX.2 0 (.int .i64 R.lo) rfl).1; have x1 := (hX.2 1 (.int .i64 R.hi) rfl).1; go_simp
              try with_reducible rfl
            try simp only [Act.put, List.getElem_toArray, List.getElem_cons_zero, List.getElem_cons_succ, List.setIfInBounds_toArray, List.set_cons_zero, List.set_cons_succ]
            refine tkH (i := 12) (v := ?_) (fun V hV => ?_) ?_
            rotate_left
            · go_simp
              try with_reducible rfl
            try simp only [Act.put, List.getElem_toArray, List.getElem_cons_zero, List.getElem_cons_succ, List.setIfInBounds_toArray, List.set_cons_zero, List.set_cons_succ]
            refine tkH (i := 13) (v := ?_) (fun V hV => ?_) ?_
            rotate_left
            · have e0 := hV.1.cell 0 (v := .slice lp ln lc) rfl; have e1 := hV.1.cell 1 (v := .int .i64 p.reserve) rfl; have e2 := hV.1.cell 2 (v := .slice tp tn tc) rfl; have e3 := hV.1.cell 3 (v := .slice rp rn rc) rfl; go_simp
              try with_reducible rfl
            try simp only [Act.put, List.getElem_toArray, List.getElem_cons_zero, List.getElem_cons_succ, List.setIfInBounds_toArray, List.set_cons_zero, List.set_cons_succ]
            refine tkH (i := 14) (v := ?_) (fun V hV => ?_) ?_
            rotate_left
            · go_simp
              try with_reducible rfl
            try simp only [Act.put, List.getElem_toArray, List.getElem_cons_zero, List.getElem_cons_succ, List.setIfInBounds_toArray, List.set_cons_zero, List.set_cons_succ]
            refine tkH (i := 15) (v := ?_) (fun V hV => ?_) ?_
            rotate_left
            · go_simp
              try with_reducible rfl
            try simp only [Act.put, List.getElem_toArray, List.getElem_cons_zero, List.getElem_cons_succ, List.setIfInBounds_toArray, List.set_cons_zero, List.set_cons_succ]
            refine tkU (i := 16) ?_
            try simp only [Act.put, List.getElem_toArray, List.getElem_cons_zero, List.getElem_cons_succ, List.setIfInBounds_toArray, List.set_cons_zero, List.set_cons_succ]
            refine tkU (i := 17) ?_
            try simp only [Act.put, List.getElem_toArray, List.getElem_cons_zero, List.getElem_cons_succ, List.setIfInBounds_toArray, List.set_cons_zero, List.set_cons_succ]
            refine tkU (i := 18) ?_
            try simp only [Act.put, List.getElem_toArray, List.getElem_cons_zero, List.getElem_cons_succ, List.setIfInBounds_toArray, List.set_cons_zero, List.set_cons_succ]
            refine tkU (i := 19) ?_
            try simp only [Act.put, List.getElem_toArray, List.getElem_cons_zero, List.getElem_cons_succ, List.setIfInBounds_toArray, List.set_cons_zero, List.set_cons_succ]
            refine tkU (i := 20) ?_
            try simp only [Act.put, List.getElem_toArray, List.getElem_cons_zero, List.getElem_cons_succ, List.setIfInBounds_toArray, List.set_cons_zero, List.set_cons_succ]
            refine tkH (i := 21) (v := ?_) (fun V hV => ?_) ?_
            rotate_left
            · go_simp
              try with_reducible rfl
            try simp only [Act.put, List.getElem_toArray, List.getElem_cons_zero, List.getElem_cons_succ, List.setIfInBounds_toArray, List.set_cons_zero, List.set_cons_succ]
            refine tkH (i := 22) (v := ?_) (fun V hV => ?_) ?_
            rotate_left
            · go_simp
              try with_reducible rfl
            try simp only [Act.put, List.getElem_toArray, List.getElem_cons_zero, List.getElem_cons_succ, List.setIfInBounds_toArray, List.set_cons_zero, List.set_cons_succ]
            refine tkH (i := 23) (v := ?_) (fun V hV => ?_) ?_
            rotate_left
            · go_simp
              try with_reducible rfl
            try simp only [Act.put, List.getElem_toArray, List.getElem_cons_zero, List.getElem_cons_succ, List.setIfInBounds_toArray, List.set_cons_zero, List.set_cons_succ]
            refine tkH (i := 24) (v := ?_) (fun V hV => ?_) ?_
            rotate_left
            · go_simp
              try with_reducible rfl
            try simp only [Act.put, List.getElem_toArray, List.getElem_cons_zero, List.getElem_cons_succ, List.setIfInBounds_toArray, List.set_cons_zero, List.set_cons_succ]
            refine wpAnyH_ready (rs := [25]) (by kernel_rfl) (by simp) ?_
            refine AllReadyH.cons (o := _) rfl (fun K hK => ?_) AllReadyH.nil
            go_simp
            (with_reducible refine (awake_any _).mono ?_)
            rintro e v25 ⟨rfl, hb⟩
            refine hK.out _ _ (⟨hS.1.step hb, hS.2.trans (hb.mono hS.2.size)⟩) (fun hS => ?_)
            clear hK K
            try simp only [List.setIfInBounds_toArray, List.set_cons_zero, List.set_cons_succ]
            refine tkH (i := 26) (v := ?_) (fun V hV => ?_) ?_
            rotate_left
            · go_simp
              try with_reducible rfl
            try simp only [Act.put, List.getElem_toArray, List.getElem_cons_zero, List.getElem_cons_succ, List.setIfInBounds_toArray, List.set_cons_zero, List.set_cons_succ]
            refine tkH (i := 27) (v := ?_) (fun V hV => ?_) ?_
            rotate_left
            · go_simp
              try with_reducible rfl
            try simp only [Act.put, List.getElem_toArray, List.getElem_cons_zero, List.getElem_cons_succ, List.setIfInBounds_toArray, List.set_cons_zero, List.set_cons_succ]
            refine wpAnyH_done (by kernel_rfl) ?_ _
            have HS9 := hid hS.1
            clear hS
            go_wp2_with fail
            go_ret
            exact ⟨rfl, HS9.out.below⟩
      · have hn := kp_bad (l := l) (pr := pr) hF
        have h0 : R.lo = 0 ∧ R.hi = 0 := by rw [← HRR.out]; exact hn.2.1
        rw [h0.1, h0.2] at HX
        have he0 : ke = faultP p := by rw [← HKE.out, hn.1]
        have hp0 : pb = false := by rw [← HPB.out, hn.2.2]
        subst he0 hp0
        have x0 := (HX.out.2 0 (.int .i64 0) rfl).1; have x1 := (HX.out.2 1 (.int .i64 0) rfl).1
        clear h0 hn HRR HKE HPB
        obtain ⟨F, hFF⟩ : ∃ F, faultP p = F := ⟨_, rfl⟩
        rw [hFF] at hF  ⊢
        have hF1 : (F == 0) = false := by simpa using hF
        have hF2 : (F != 0) = true := by simpa using hF
        clear hFF
        go_wp2_with fail
        (with_reducible refine (awake_any _).mono ?_)
        rintro e w99 ⟨rfl, hb⟩
        go_wp2_with fail
        go_ret
        exact ⟨rfl, H9.out.below.trans (hb.mono H9.out.below.size)⟩
end Go.Proofs.Ytaioobhblfnlaaa
