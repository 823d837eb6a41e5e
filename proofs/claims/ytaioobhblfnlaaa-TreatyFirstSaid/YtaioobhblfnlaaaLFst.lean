/- TreatyFirst: the programme with the reports before the first wrong one has a truth; with this one it has none; if there is no wrong one, the programme has a truth. For each programme. -/
import Derived.Test.YtaioobhblfnlaaaD7
namespace Go.Proofs.Ytaioobhblfnlaaa
open Go.RowKit


theorem first_bits {k : Nat} (hk : k ≤ 6) : ∃ N : Nat, 2 ^ k = N ∧ 1 ≤ N ∧ N ≤ 64 ∧ wrap64 (2 ^ k) = (N : Int) ∧ wrap64 (2 * 2 ^ k) = 2 * (N : Int) ∧ ((2 ^ k - 1 : Nat) : Int) = (N : Int) - 1 ∧ ((2 ^ (k + 1) - 1 : Nat) : Int) = 2 * (N : Int) - 1 := by
  have : k = 0 ∨ k = 1 ∨ k = 2 ∨ k = 3 ∨ k = 4 ∨ k = 5 ∨ k = 6 := by omega
  rcases this with rfl | rfl | rfl | rfl | rfl | rfl | rfl <;> exact ⟨_, rfl, by decide, by decide, by decide +kernel, by decide +kernel, by decide +kernel, by decide +kernel⟩
theorem err_some {p : Prg} (ok : OkP p) (m : Int) : errP (someP p m) = if possO (someP p m) allT [] = true then 0 else 11 := errP_ok (fault_iff.2 (ok.some m))
theorem err_cases {p : Prg} (ok : OkP p) : errP p = if possO p allT [] = true then 0 else 11 := errP_ok (fault_iff.2 ok)

set_option maxRecDepth 40000 in
set_option maxHeartbeats 8000000 in
theorem treatyFirst_any (p : Prg) (lp : Option Addr) (ln lc : Nat) (tp : Option Addr) (tn tc : Nat) (rp : Option Addr) (rn rc : Nat) (w : World) (hp : PrgAt w p lp ln tp tn rp rn) : Calls Try.prog 14 #[.agg #[.slice lp ln lc, .int .i64 p.reserve, .slice tp tn tc, .slice rp rn rc]] w fun e w' => e = .returned (.bool true) ∧ Below w.heap.size w w' := by
  have HP := hid hp
  have HTH := hid (fun W (hW : Below w.heap.size w W) => thin_any p lp ln lc tp tn tc rp rn rc W (hp.below hW))
  have HFL := hid (fun W (hW : Below w.heap.size w W) => faultL_any p lp ln lc tp tn tc rp rn rc W (hp.below hW))
  have HRD := hid (fun W (hW : Below w.heap.size w W) => ready_any p lp ln lc tp tn tc rp rn rc W (hp.below hW))
  clear hp 
  have H0 : Hid (Boxed1 w #[.slice lp ln lc, .int .i64 p.reserve, .slice tp tn tc, .slice rp rn rc] 26 (w.alloc (.cells #[.slice lp ln lc, .int .i64 p.reserve, .slice tp tn tc, .slice rp rn rc] 26))) := hid (Boxed1.start _ _ _)
  go_enter Try.func14, Try.ntmps14
  have e0 := H0.out.cell 0 (v := .slice lp ln lc) rfl; have e1 := H0.out.cell 1 (v := .int .i64 p.reserve) rfl; have e2 := H0.out.cell 2 (v := .slice tp tn tc) rfl; have e3 := H0.out.cell 3 (v := .slice rp rn rc) rfl
  go_wp2_with fail
  (with_reducible refine (HRD.out _ ?_).mono ?_)
  · exact H0.out.below
  rintro e w1 ⟨rfl, hb⟩
  have H1 := hid (H0.out.step hb)
  clear e0 e1 e2 e3 hb 
  cases hrd : readyB p
  · clear hrd
    go_wp2_with fail
    (with_reducible refine (awake_any _).mono ?_)
    rintro e w99 ⟨rfl, hb⟩
    go_wp2_with fail
    go_ret
    exact ⟨rfl, H1.out.below.trans (hb.mono H1.out.below.size)⟩
  · have HOK := hid (ready_iff.1 hrd).1; have HMY := hid (ready_iff.1 hrd).2
    have hln : ln ≤ 4 := by have := HP.out.l.1; have := HOK.out.n4; omega
    have htn : tn ≤ 5 := by have := HP.out.t.1; have := HOK.out.m5; omega
    have hrn : rn ≤ 5 := by have := HP.out.r.1; have := HOK.out.k5; omega
    have HF0 := hid (fault_iff.2 HOK.out)
    clear hrd
    have e0 := H1.out.cell 0 (v := .slice lp ln lc) rfl; have e1 := H1.out.cell 1 (v := .int .i64 p.reserve) rfl; have e2 := H1.out.cell 2 (v := .slice tp tn tc) rfl; have e3 := H1.out.cell 3 (v := .slice rp rn rc) rfl
    go_wp2_with fail
    (with_reducible refine (prog_any p lp ln lc tp tn tc rp rn rc w1 (HP.out.below H1.out.below) (by omega) (by omega) (by omega)).mono ?_)
    rintro e w2 ⟨lq1, lc1, tq1, tc1, rq1, rc1, rfl, hpx, hcx, hb⟩
    have H2 := hid (H1.out.step hb)
    have HP1 := hid hpx; have HC1 := hid hcx
    clear e0 e1 e2 e3 hb hpx hcx
    go_wp2_with fail
    refine (first_any p lq1 ln lc1 tq1 tn tc1 rq1 rn rc1 w2 HP1.out HC1.out).mono ?_
    rintro e w3 ⟨rfl, hb⟩
    have H3 := hid (H2.out.step hb)
    replace HP1 := hid (HP1.out.below hb)
    clear hb 
    rcases first_spec HOK.out with ⟨hf, hpo⟩ | ⟨j, hf, hj, hpt, hpf⟩
    · have hv : firstV p = 0 ∧ firstE p = 7 := ⟨by rw [firstV, if_pos HF0.out, if_pos hf], by rw [firstE, if_pos HF0.out, if_pos hf]⟩
      have HER : Hid (errP p = 0) := hid (by rw [err_cases HOK.out, hpo]; rfl)
      rw [hv.1, hv.2]
      clear hv hf hpo
      have e0 := H3.out.cell 0 (v := .slice lp ln lc) rfl; have e1 := H3.out.cell 1 (v := .int .i64 p.reserve) rfl; have e2 := H3.out.cell 2 (v := .slice tp tn tc) rfl; have e3 := H3.out.cell 3 (v := .slice rp rn rc) rfl
      go_wp2_with fail
      (with_reducible refine (prog_any p lp ln lc tp tn tc rp rn rc w3 (HP.out.below H3.out.below) (by omega) (by omega) (by omega)).mono ?_)
      rintro e w4 ⟨lq2, lc2, tq2, tc2, rq2, rc2, rfl, hpx, hcx, hb⟩
      have H4 := hid (H3.out.step hb)
      have HP2 := hid hpx; have HC2 := hid hcx
      clear e0 e1 e2 e3 hb hpx hcx
      go_wp2_with fail
      refine (net_any (p) lq2 ln lc2 tq2 tn tc2 rq2 rn rc2 w4 HP2.out).mono ?_
      rintro e w5 ⟨rfl, hb⟩
      have H5 := hid (H4.out.step hb)
      clear hb 
      obtain ⟨R, hR⟩ : ∃ R, netP (p) = R := ⟨_, rfl⟩
      rw [hR, HER.out]
      clear hR
      go_upto_region 6 with fail
      obtain ⟨w6, hw6⟩ : ∃ V, w5.alloc (.cells #[.int .i64 R.lo, .int .i64 R.hi] 51) = V := ⟨_, rfl⟩
      rw [hw6]
      have hb : Below w5.heap.size w5 w6 := by rw [← hw6]; exact (Below.refl _ _).alloc (Nat.le_refl _) _
      clear hw6
      have H6 := hid (H5.out.step hb)
      clear hb
      go_wp2_with fail
      (with_reducible refine (awake_any _).mono ?_)
      rintro e w99 ⟨rfl, hb⟩
      go_wp2_with fail
      go_ret
      exact ⟨rfl, H6.out.below.trans (hb.mono H6.out.below.size)⟩
    · have hv : firstV p = (j : Int) ∧ firstE p = 0 := ⟨by rw [firstV, if_pos HF0.out, if_neg (by omega), hf], by rw [firstE, if_pos HF0.out, if_neg (by omega)]⟩
      rw [hv.1, hv.2]
      have hj5 : j ≤ 4 := by have := HOK.out.k5; omega
      have hjn : j < rn := by have := HP.out.r.1; omega
      obtain ⟨N, hN0, hN1, hN2, hN3, hN4, hN5, hN6⟩ := first_bits (show j ≤ 6 by omega)
      have HE1 : Hid (errP (someP p ((N : Int) - 1)) = 0) := hid (by rw [err_some HOK.out, ← hN5, some_low, hpt]; rfl)
      have HE2 : Hid (errP (someP p (2 * (N : Int) - 1)) = 11) := hid (by rw [err_some HOK.out, ← hN6, some_low, hpf]; rfl)
      clear hv hf hpt hpf hj hN0 hN5 hN6
      have e0 := H3.out.cell 0 (v := .slice lp ln lc) rfl; have e1 := H3.out.cell 1 (v := .int .i64 p.reserve) rfl; have e2 := H3.out.cell 2 (v := .slice tp tn tc) rfl; have e3 := H3.out.cell 3 (v := .slice rp rn rc) rfl
      go_wp2_with fail
      (with_reducible refine (in_any _ _ _ _).mono ?_)
      rintro e wx ⟨rfl, he⟩
      have he := he.symm
      subst he
      have hin : inB (j : Int) 0 ((rn : Int) - 1) = true := by rw [inB_iff]; omega
      rw [hin]
      clear hin
      clear e0 e1 e2 e3 
      have e0 := H3.out.cell 0 (v := .slice lp ln lc) rfl; have e1 := H3.out.cell 1 (v := .int .i64 p.reserve) rfl; have e2 := H3.out.cell 2 (v := .slice tp tn tc) rfl; have e3 := H3.out.cell 3 (v := .slice rp rn rc) rfl
      go_wp2_with fail
      refine (some_any p lp ln lc tp tn tc rp rn rc ((N : Int) - 1) w3 (HP.out.below H3.out.below) (by omega) (by omega) (by omega)).mono ?_
      rintro e w4 ⟨q3, n3, d3, rfl, hps, hcs, hb⟩
      have H4 := hid (H3.out.step hb)
      have HS3 := hid hps
      have hn3 : n3 ≤ 9 := by have h1 := hps.r.1; have h2 := someR_len p.reps ((N : Int) - 1) p.reps.length; have h3 := HOK.out.k5; have h4 : n3 = (someR p.reps ((N : Int) - 1) p.reps.length).length := h1; omega
      clear e0 e1 e2 e3 hb hps hcs
      go_wp2_with fail
      refine (prog_any (someP p ((N : Int) - 1)) lp ln lc tp tn tc q3 n3 d3 w4 HS3.out (by omega) (by omega) (by omega)).mono ?_
      rintro e w5 ⟨lqq, lcc, tqq, tcc, rqq, rcc, rfl, hpx, hcx, hb⟩
      have H5 := hid (H4.out.step hb)
      replace HS3 := hid (HS3.out.below hb)
      have HPX := hid hpx
      clear hb hpx hcx
      go_wp2_with fail
      refine (net_any (someP p ((N : Int) - 1)) lqq ln lcc tqq tn tcc rqq n3 rcc w5 HPX.out).mono ?_
      rintro e w6 ⟨rfl, hb⟩
      have H6 := hid (H5.out.step hb)
      replace HPX := hid (HPX.out.below hb)
      clear hb 
      obtain ⟨R, hR⟩ : ∃ R, netP (someP p ((N : Int) - 1)) = R := ⟨_, rfl⟩
      rw [hR, HE1.out]
      clear hR
      go_upto_region 10 with fail
      obtain ⟨w7, hw7⟩ : ∃ V, w6.alloc (.cells #[.int .i64 R.lo, .int .i64 R.hi] 51) = V := ⟨_, rfl⟩
      rw [hw7]
      have hb : Below w6.heap.size w6 w7 := by rw [← hw7]; exact (Below.refl _ _).alloc (Nat.le_refl _) _
      clear hw7
      have H7 := hid (H6.out.step hb)
      replace HPX := hid (HPX.out.below hb)
      clear hb
      have e0 := H7.out.cell 0 (v := .slice lp ln lc) rfl; have e1 := H7.out.cell 1 (v := .int .i64 p.reserve) rfl; have e2 := H7.out.cell 2 (v := .slice tp tn tc) rfl; have e3 := H7.out.cell 3 (v := .slice rp rn rc) rfl
      go_wp2_with fail
      refine (some_any p lp ln lc tp tn tc rp rn rc (2 * (N : Int) - 1) w7 (HP.out.below H7.out.below) (by omega) (by omega) (by omega)).mono ?_
      rintro e w8 ⟨q4, n4, d4, rfl, hps, hcs, hb⟩
      have H8 := hid (H7.out.step hb)
      have HS4 := hid hps
      have hn4 : n4 ≤ 9 := by have h1 := hps.r.1; have h2 := someR_len p.reps (2 * (N : Int) - 1) p.reps.length; have h3 := HOK.out.k5; have h4 : n4 = (someR p.reps (2 * (N : Int) - 1) p.reps.length).length := h1; omega
      clear e0 e1 e2 e3 hb hps hcs
      go_wp2_with fail
      refine (prog_any (someP p (2 * (N : Int) - 1)) lp ln lc tp tn tc q4 n4 d4 w8 HS4.out (by omega) (by omega) (by omega)).mono ?_
      rintro e w9 ⟨lqq, lcc, tqq, tcc, rqq, rcc, rfl, hpx, hcx, hb⟩
      have H9 := hid (H8.out.step hb)
      replace HS4 := hid (HS4.out.below hb)
      have HPX := hid hpx
      clear hb hpx hcx
      go_wp2_with fail
      refine (net_any (someP p (2 * (N : Int) - 1)) lqq ln lcc tqq tn tcc rqq n4 rcc w9 HPX.out).mono ?_
      rintro e w10 ⟨rfl, hb⟩
      have H10 := hid (H9.out.step hb)
      replace HPX := hid (HPX.out.below hb)
      clear hb 
      obtain ⟨R, hR⟩ : ∃ R, netP (someP p (2 * (N : Int) - 1)) = R := ⟨_, rfl⟩
      rw [hR, HE2.out]
      clear hR
      go_upto_region 11 with fail
      obtain ⟨w11, hw11⟩ : ∃ V, w10.alloc (.cells #[.int .i64 R.lo, .int .i64 R.hi] 51) = V := ⟨_, rfl⟩
      rw [hw11]
      have hb : Below w10.heap.size w10 w11 := by rw [← hw11]; exact (Below.refl _ _).alloc (Nat.le_refl _) _
      clear hw11
      have H11 := hid (H10.out.step hb)
      replace HPX := hid (HPX.out.below hb)
      clear hb
      go_wp2_with fail
      (with_reducible refine (awake_any _).mono ?_)
      rintro e w99 ⟨rfl, hb⟩
      go_wp2_with fail
      go_ret
      exact ⟨rfl, H11.out.below.trans (hb.mono H11.out.below.size)⟩
end Go.Proofs.Ytaioobhblfnlaaa
