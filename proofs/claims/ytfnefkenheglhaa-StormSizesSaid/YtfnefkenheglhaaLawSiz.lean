/- StormSizes: the sizes at any place, and the best place, are as the document says, or the error is: all truths and places are tried. For each storm and each two numbers. -/
import Derived.Test.YtfnefkenheglhaaPlS
import Derived.Test.YtfnefkenheglhaaLawS0
import Derived.Test.YtfnefkenheglhaaLawB
import Derived.Test.YtfnefkenheglhaaLawAwake
namespace Go.Proofs.Ytfnefkenheglhaa
open Go.RowKit

theorem thin_n' {s : Sto} (h : thinB s = true) : s.cards.length ≤ 9 := by
  unfold thinB at h
  rw [Bool.and_eq_true, decide_eq_true_eq] at h
  exact h.1
theorem truR_small {s : Sto} (ok : OkS s) : ∀ t ∈ truR s, SmallT t := fun _t ht => ok.smallT (truth_in ((truR_perm ok.pos).mem_iff.1 ht))

set_option maxRecDepth 40000 in
set_option maxHeartbeats 16000000 in
theorem stormSizes_any (s : Sto) (p : Option Addr) (n c : Nat) (x y : Int) (w : World) (hcs : CrdsAt w p n s.cards) :
    Calls Try.prog 3 #[.agg #[.int .i64 s.wide, .int .i64 s.high, .int .i64 s.fall, .int .i64 s.a.lo, .int .i64 s.a.hi, .int .i64 s.b.lo, .int .i64 s.b.hi, .int .i64 s.half.lo, .int .i64 s.half.hi, .int .i64 s.peak.lo, .int .i64 s.peak.hi, .slice p n c], .int .i64 x, .int .i64 y] w fun e w' => e = .returned (.bool true) ∧ Below w.heap.size w w' := by
  have HC := hid hcs
  have HTH := hid (fun W (hb : Below w.heap.size w W) => thin_any s p n c W (hcs.below hb))
  have HFL := hid (fun W (hb : Below w.heap.size w W) => faultL_any s p n c W (hcs.below hb))
  clear hcs
  have H0 : Hid (Boxed1 w #[.int .i64 s.wide, .int .i64 s.high, .int .i64 s.fall, .int .i64 s.a.lo, .int .i64 s.a.hi, .int .i64 s.b.lo, .int .i64 s.b.hi, .int .i64 s.half.lo, .int .i64 s.half.hi, .int .i64 s.peak.lo, .int .i64 s.peak.hi, .slice p n c] 26 (w.alloc (.cells #[.int .i64 s.wide, .int .i64 s.high, .int .i64 s.fall, .int .i64 s.a.lo, .int .i64 s.a.hi, .int .i64 s.b.lo, .int .i64 s.b.hi, .int .i64 s.half.lo, .int .i64 s.half.hi, .int .i64 s.peak.lo, .int .i64 s.peak.hi, .slice p n c] 26))) := Boxed1.start _ _ _
  go_enter Try.func3, Try.ntmps3
  go_wp2_with fail
  (with_reducible refine (HTH.out _ ?_).mono ?_)
  · exact H0.out.below
  rintro e w1 ⟨rfl, hb⟩
  have H1 := hid (H0.out.step hb)
  clear hb
  cases hth : thinB s
  · clear hth
    go_wp2_with fail
    refine (awake_any _).mono ?_
    rintro e w99 ⟨rfl, hb⟩
    go_wp2_with fail
    go_ret
    exact ⟨rfl, H1.out.below.trans (hb.mono H1.out.below.size)⟩
  · have hn9 := thin_n' hth
    have HN : Hid (n ≤ 1000) := hid (by have := HC.out.1; omega)
    clear hth
    have e0 := (StoAt.of H1.out.cell).c0; have e1 := (StoAt.of H1.out.cell).c1; have e2 := (StoAt.of H1.out.cell).c2; have e3 := (StoAt.of H1.out.cell).c3; have e4 := (StoAt.of H1.out.cell).c4; have e5 := (StoAt.of H1.out.cell).c5; have e6 := (StoAt.of H1.out.cell).c6; have e7 := (StoAt.of H1.out.cell).c7; have e8 := (StoAt.of H1.out.cell).c8; have e9 := (StoAt.of H1.out.cell).c9; have e10 := (StoAt.of H1.out.cell).c10; have e11 := (StoAt.of H1.out.cell).c11
    go_wp2_with fail
    refine (storm20_any s p n c w1 (HC.out.below H1.out.below) HN.out).mono ?_
    rintro e w2 ⟨q1, m1, d1, rfl, hc, hb⟩
    have H2 := hid (H1.out.step hb)
    have HK1 := hid hc
    clear e0 e1 e2 e3 e4 e5 e6 e7 e8 e9 e10 e11 hb hc
    go_wp2_with fail
    refine (sizes_any s q1 m1 d1 x y w2 HK1.out).mono ?_
    rintro e w3 ⟨rfl, hb⟩
    have H3 := hid (H2.out.step hb)
    replace HK1 := hid (HK1.out.below hb)
    clear hb
    obtain ⟨R, hR⟩ : ∃ R, sizesV s x y = R := ⟨_, rfl⟩
    rw [hR]
    have HRR := hid hR
    clear hR
    obtain ⟨w4, hw4⟩ : ∃ V, (w3.alloc (.cells #[.int .i64 R.lo, .int .i64 R.hi] 29)) = V := ⟨_, rfl⟩
    have H4 : Hid (Boxed1 w #[.int .i64 s.wide, .int .i64 s.high, .int .i64 s.fall, .int .i64 s.a.lo, .int .i64 s.a.hi, .int .i64 s.b.lo, .int .i64 s.b.hi, .int .i64 s.half.lo, .int .i64 s.half.hi, .int .i64 s.peak.lo, .int .i64 s.peak.hi, .slice p n c] 26 w4) := by show Boxed1 _ _ _ _; rw [← hw4]; exact H3.out.alloc _
    have HR : Hid (BoxIs w3.heap.size #[.int .i64 R.lo, .int .i64 R.hi] w4) := by show BoxIs _ _ _; rw [← hw4]; exact BoxIs.start _ _ _
    go_upto_region 4 with fail
    clear hw4
    have e0 := (StoAt.of H4.out.cell).c0; have e1 := (StoAt.of H4.out.cell).c1; have e2 := (StoAt.of H4.out.cell).c2; have e3 := (StoAt.of H4.out.cell).c3; have e4 := (StoAt.of H4.out.cell).c4; have e5 := (StoAt.of H4.out.cell).c5; have e6 := (StoAt.of H4.out.cell).c6; have e7 := (StoAt.of H4.out.cell).c7; have e8 := (StoAt.of H4.out.cell).c8; have e9 := (StoAt.of H4.out.cell).c9; have e10 := (StoAt.of H4.out.cell).c10; have e11 := (StoAt.of H4.out.cell).c11
    go_wp2_with fail
    refine (storm20_any s p n c w4 (HC.out.below H4.out.below) HN.out).mono ?_
    rintro e w5 ⟨q2, m2, d2, rfl, hc, hb⟩
    have H5 := hid (H4.out.step hb)
    replace HR := hid (HR.out.below hb)
    have HK2 := hid hc
    clear e0 e1 e2 e3 e4 e5 e6 e7 e8 e9 e10 e11 hb hc
    go_wp2_with fail
    refine (best_any s q2 m2 d2 w5 HK2.out).mono ?_
    rintro e w6 ⟨rfl, hb⟩
    have H6 := hid (H5.out.step hb)
    replace HR := hid (HR.out.below hb)
    replace HK2 := hid (HK2.out.below hb)
    clear hb
    obtain ⟨B1, hB1⟩ : ∃ B, (bestV s).1 = B := ⟨_, rfl⟩
    obtain ⟨B2, hB2⟩ : ∃ B, (bestV s).2.1 = B := ⟨_, rfl⟩
    obtain ⟨B3, hB3⟩ : ∃ B, (bestV s).2.2 = B := ⟨_, rfl⟩
    rw [hB1, hB2, hB3]
    have HB1 := hid hB1; have HB2 := hid hB2; have HB3 := hid hB3
    clear hB1 hB2 hB3
    have e0 := (StoAt.of H6.out.cell).c0; have e1 := (StoAt.of H6.out.cell).c1; have e2 := (StoAt.of H6.out.cell).c2; have e3 := (StoAt.of H6.out.cell).c3; have e4 := (StoAt.of H6.out.cell).c4; have e5 := (StoAt.of H6.out.cell).c5; have e6 := (StoAt.of H6.out.cell).c6; have e7 := (StoAt.of H6.out.cell).c7; have e8 := (StoAt.of H6.out.cell).c8; have e9 := (StoAt.of H6.out.cell).c9; have e10 := (StoAt.of H6.out.cell).c10; have e11 := (StoAt.of H6.out.cell).c11
    go_wp2_with fail
    refine (sure_any s p n c w6 (HC.out.below H6.out.below)).mono ?_
    rintro e w7 ⟨v, rfl, hown, hb⟩
    have H7 := hid (H6.out.step hb)
    replace HR := hid (HR.out.below hb)
    obtain ⟨ql, dl, rfl, hrl⟩ := hown.slice cellsT_len
    have HRL := hid hrl
    clear e0 e1 e2 e3 e4 e5 e6 e7 e8 e9 e10 e11 hb hown hrl
    have e0 := (StoAt.of H7.out.cell).c0; have e1 := (StoAt.of H7.out.cell).c1; have e2 := (StoAt.of H7.out.cell).c2; have e3 := (StoAt.of H7.out.cell).c3; have e4 := (StoAt.of H7.out.cell).c4; have e5 := (StoAt.of H7.out.cell).c5; have e6 := (StoAt.of H7.out.cell).c6; have e7 := (StoAt.of H7.out.cell).c7; have e8 := (StoAt.of H7.out.cell).c8; have e9 := (StoAt.of H7.out.cell).c9; have e10 := (StoAt.of H7.out.cell).c10; have e11 := (StoAt.of H7.out.cell).c11
    go_wp2_with fail
    (with_reducible refine (HFL.out _ ?_).mono ?_)
    · exact H7.out.below
    rintro e w8 ⟨rfl, hb⟩
    have H8 := hid (H7.out.step hb)
    replace HR := hid (HR.out.below hb)
    replace HRL := hid (HRL.out.below hb)
    clear e0 e1 e2 e3 e4 e5 e6 e7 e8 e9 e10 e11 hb
    by_cases hF : faultS s = 0
    · have HOK := hid (fault_iff.1 hF)
      have HS1 : Hid (sureE s (fineS s x y) = if fineS s x y = true then (if truthL s = [] then 11 else 0) else 2) := by show _ = _; rw [sureE, if_pos hF]
      have HS2 : Hid (sureE s true = if truthL s = [] then 11 else 0) := by show _ = _; rw [sureE, if_pos hF, if_pos rfl]
      have HFN := hid (show fineS s x y = (inB x 0 (s.wide - 1) && inB y 0 (s.high - 1)) from rfl)
      have q1 := HOK.out.w2; have q2 := HOK.out.w12; have q3 := HOK.out.h1; have q4 := HOK.out.h12
      rw [hF]
      clear hF
      by_cases hL : truthL s = []
      · skip
        cases hx : inB x 0 (s.wide - 1)
        · skip
          have HE1 : Hid (sureE s (fineS s x y) = 2) := by show _ = _; rw [HS1.out, HFN.out, hx]; rfl
          have HE2 : Hid (sureE s true = 11) := by show _ = _; rw [HS2.out, if_pos hL]
          rw [HE1.out, HE2.out]
          have hR0 : R.lo = 0 ∧ R.hi = 0 := by rw [← HRR.out, sizesV, if_neg (by rw [HE1.out]; decide)]; exact ⟨rfl, rfl⟩
          rw [hR0.1, hR0.2] at HR
          clear hR0
          have hb0 : bestV s = (0, 0, 0) := by rw [bestV, if_neg (by rw [HE2.out]; decide)]
          have hb1 : B1 = 0 := by rw [← HB1.out, hb0]
          have hb2 : B2 = 0 := by rw [← HB2.out, hb0]
          have hb3 : B3 = 0 := by rw [← HB3.out, hb0]
          subst hb1 hb2 hb3
          clear hb0
          have e0 := (StoAt.of H8.out.cell).c0; have e1 := (StoAt.of H8.out.cell).c1; have e2 := (StoAt.of H8.out.cell).c2; have e3 := (StoAt.of H8.out.cell).c3; have e4 := (StoAt.of H8.out.cell).c4; have e5 := (StoAt.of H8.out.cell).c5; have e6 := (StoAt.of H8.out.cell).c6; have e7 := (StoAt.of H8.out.cell).c7; have e8 := (StoAt.of H8.out.cell).c8; have e9 := (StoAt.of H8.out.cell).c9; have e10 := (StoAt.of H8.out.cell).c10; have e11 := (StoAt.of H8.out.cell).c11
          have x0 := (HR.out.2 0 (.int .i64 0) rfl).1; have x1 := (HR.out.2 1 (.int .i64 0) rfl).1
          go_wp2_with (go_at_call 24; refine (in_any _ _ _ _).mono ?_; rintro e wx ⟨rfl, he⟩; have he := he.symm; subst he)
          refine (awake_any _).mono ?_
          rintro e w99 ⟨rfl, hb⟩
          go_wp2_with fail
          go_ret
          exact ⟨rfl, H8.out.below.trans (hb.mono H8.out.below.size)⟩
        · skip
          cases hy : inB y 0 (s.high - 1)
          · skip
            have HE1 : Hid (sureE s (fineS s x y) = 2) := by show _ = _; rw [HS1.out, HFN.out, hx, hy]; rfl
            have HE2 : Hid (sureE s true = 11) := by show _ = _; rw [HS2.out, if_pos hL]
            rw [HE1.out, HE2.out]
            have hR0 : R.lo = 0 ∧ R.hi = 0 := by rw [← HRR.out, sizesV, if_neg (by rw [HE1.out]; decide)]; exact ⟨rfl, rfl⟩
            rw [hR0.1, hR0.2] at HR
            clear hR0
            have hb0 : bestV s = (0, 0, 0) := by rw [bestV, if_neg (by rw [HE2.out]; decide)]
            have hb1 : B1 = 0 := by rw [← HB1.out, hb0]
            have hb2 : B2 = 0 := by rw [← HB2.out, hb0]
            have hb3 : B3 = 0 := by rw [← HB3.out, hb0]
            subst hb1 hb2 hb3
            clear hb0
            have e0 := (StoAt.of H8.out.cell).c0; have e1 := (StoAt.of H8.out.cell).c1; have e2 := (StoAt.of H8.out.cell).c2; have e3 := (StoAt.of H8.out.cell).c3; have e4 := (StoAt.of H8.out.cell).c4; have e5 := (StoAt.of H8.out.cell).c5; have e6 := (StoAt.of H8.out.cell).c6; have e7 := (StoAt.of H8.out.cell).c7; have e8 := (StoAt.of H8.out.cell).c8; have e9 := (StoAt.of H8.out.cell).c9; have e10 := (StoAt.of H8.out.cell).c10; have e11 := (StoAt.of H8.out.cell).c11
            have x0 := (HR.out.2 0 (.int .i64 0) rfl).1; have x1 := (HR.out.2 1 (.int .i64 0) rfl).1
            go_wp2_with (go_at_call 24; refine (in_any _ _ _ _).mono ?_; rintro e wx ⟨rfl, he⟩; have he := he.symm; subst he)
            refine (awake_any _).mono ?_
            rintro e w99 ⟨rfl, hb⟩
            go_wp2_with fail
            go_ret
            exact ⟨rfl, H8.out.below.trans (hb.mono H8.out.below.size)⟩
          · have HX := hid hx; have HY := hid hy
            have HE1 : Hid (sureE s (fineS s x y) = 11) := by show _ = _; rw [HS1.out, HFN.out, hx, hy]; simp [hL]
            have HE2 : Hid (sureE s true = 11) := by show _ = _; rw [HS2.out, if_pos hL]
            rw [HE1.out, HE2.out]
            have hR0 : R.lo = 0 ∧ R.hi = 0 := by rw [← HRR.out, sizesV, if_neg (by rw [HE1.out]; decide)]; exact ⟨rfl, rfl⟩
            rw [hR0.1, hR0.2] at HR
            clear hR0
            have hb0 : bestV s = (0, 0, 0) := by rw [bestV, if_neg (by rw [HE2.out]; decide)]
            have hb1 : B1 = 0 := by rw [← HB1.out, hb0]
            have hb2 : B2 = 0 := by rw [← HB2.out, hb0]
            have hb3 : B3 = 0 := by rw [← HB3.out, hb0]
            subst hb1 hb2 hb3
            clear hb0
            have e0 := (StoAt.of H8.out.cell).c0; have e1 := (StoAt.of H8.out.cell).c1; have e2 := (StoAt.of H8.out.cell).c2; have e3 := (StoAt.of H8.out.cell).c3; have e4 := (StoAt.of H8.out.cell).c4; have e5 := (StoAt.of H8.out.cell).c5; have e6 := (StoAt.of H8.out.cell).c6; have e7 := (StoAt.of H8.out.cell).c7; have e8 := (StoAt.of H8.out.cell).c8; have e9 := (StoAt.of H8.out.cell).c9; have e10 := (StoAt.of H8.out.cell).c10; have e11 := (StoAt.of H8.out.cell).c11
            have x0 := (HR.out.2 0 (.int .i64 0) rfl).1; have x1 := (HR.out.2 1 (.int .i64 0) rfl).1
            go_wp2_with (go_at_call 24; refine (in_any _ _ _ _).mono ?_; rintro e wx ⟨rfl, he⟩; have he := he.symm; subst he)
            refine (awake_any _).mono ?_
            rintro e w99 ⟨rfl, hb⟩
            go_wp2_with fail
            go_ret
            exact ⟨rfl, H8.out.below.trans (hb.mono H8.out.below.size)⟩
      · have HL := hid hL
        cases hx : inB x 0 (s.wide - 1)
        · skip
          have HE1 : Hid (sureE s (fineS s x y) = 2) := by show _ = _; rw [HS1.out, HFN.out, hx]; rfl
          have HE2 : Hid (sureE s true = 0) := by show _ = _; rw [HS2.out, if_neg hL]
          rw [HE1.out, HE2.out]
          have hR0 : R.lo = 0 ∧ R.hi = 0 := by rw [← HRR.out, sizesV, if_neg (by rw [HE1.out]; decide)]; exact ⟨rfl, rfl⟩
          rw [hR0.1, hR0.2] at HR
          clear hR0
          have e0 := (StoAt.of H8.out.cell).c0; have e1 := (StoAt.of H8.out.cell).c1; have e2 := (StoAt.of H8.out.cell).c2; have e3 := (StoAt.of H8.out.cell).c3; have e4 := (StoAt.of H8.out.cell).c4; have e5 := (StoAt.of H8.out.cell).c5; have e6 := (StoAt.of H8.out.cell).c6; have e7 := (StoAt.of H8.out.cell).c7; have e8 := (StoAt.of H8.out.cell).c8; have e9 := (StoAt.of H8.out.cell).c9; have e10 := (StoAt.of H8.out.cell).c10; have e11 := (StoAt.of H8.out.cell).c11
          have x0 := (HR.out.2 0 (.int .i64 0) rfl).1; have x1 := (HR.out.2 1 (.int .i64 0) rfl).1
          go_upto_region 13 with (go_at_call 24; refine (in_any _ _ _ _).mono ?_; rintro e wx ⟨rfl, he⟩; have he := he.symm; subst he)
          clear e0 e1 e2 e3 e4 e5 e6 e7 e8 e9 e10 e11 x0 x1 hx
          have HBT : Hid (bestV s = bestT s (truthL s)) := by show _ = _; rw [bestV, if_pos HE2.out]
          have HSR : Hid (sureR s = truR s) := by show _ = _; rw [sureR, if_pos HE2.out]
          rw [HSR.out] at HRL ⊢
          obtain ⟨N, hNN⟩ : ∃ N, (truR s).length = N := ⟨_, rfl⟩
          have HNL : Hid (N ≤ 100000) := hid (by have := truR_len HOK.out; omega)
          rw [hNN] at HRL ⊢
          clear hNN
          have HSM := hid (truR_small HOK.out)
          have HSS := hid HOK.out.small
          refine wp_region_held_drew (S := fun V => Boxed1 w #[.int .i64 s.wide, .int .i64 s.high, .int .i64 s.fall, .int .i64 s.a.lo, .int .i64 s.a.hi, .int .i64 s.b.lo, .int .i64 s.b.hi, .int .i64 s.half.lo, .int .i64 s.half.hi, .int .i64 s.peak.lo, .int .i64 s.peak.hi, .slice p n c] 26 V ∧ Below w8.heap.size w8 V) (by kernel_rfl) (⟨H8.out.drew, (Below.refl _ _).drew⟩) (fun hS => ?_)
          simp only [List.size_toArray, List.length_cons, List.length_nil, Nat.reduceAdd, Array.replicate_succ, Array.replicate_zero, List.push_toArray, List.nil_append, List.cons_append]
          refine wpAnyH_take (i := 0) (v := ?_) rfl (by kernel_rfl) (by kernel_rfl) (by kernel_rfl) (fun _ _ _ h => h) (Or.inl ⟨by rfl, fun V hV => ?_⟩) (by assumption) ?_
          rotate_left
          · go_simp
            try with_reducible rfl
          try simp only [Act.put, List.getElem_toArray, List.getElem_cons_zero, List.setIfInBounds_toArray, List.set_cons_zero, List.set_cons_succ]
          refine wpAnyH_take (i := 1) (v := ?_) rfl (by kernel_rfl) (by kernel_rfl) (by kernel_rfl) (fun _ _ _ h => h) (Or.inl ⟨by rfl, fun V hV => ?_⟩) (by assumption) ?_
          rotate_left
          · go_simp
            try with_reducible rfl
          try simp only [Act.put, List.getElem_toArray, List.getElem_cons_zero, List.getElem_cons_succ, List.setIfInBounds_toArray, List.set_cons_zero, List.set_cons_succ]
          refine wpAnyH_take (i := 2) (v := ?_) rfl (by kernel_rfl) (by kernel_rfl) (by kernel_rfl) (fun _ _ _ h => h) (Or.inl ⟨by rfl, fun V hV => ?_⟩) (by assumption) ?_
          rotate_left
          · go_simp
            try with_reducible rfl
          try simp only [Act.put, List.getElem_toArray, List.getElem_cons_zero, List.getElem_cons_succ, List.setIfInBounds_toArray, List.set_cons_zero, List.set_cons_succ]
          refine wpAnyH_take (i := 3) (v := undef) rfl (by kernel_rfl) (by kernel_rfl) (by kernel_rfl) (fun _ _ _ h => h) (Or.inr ⟨by rfl, rfl⟩) (by assumption) ?_
          try simp only [Act.put, List.getElem_toArray, List.getElem_cons_zero, List.getElem_cons_succ, List.setIfInBounds_toArray, List.set_cons_zero, List.set_cons_succ]
          refine wpAnyH_take (i := 4) (v := undef) rfl (by kernel_rfl) (by kernel_rfl) (by kernel_rfl) (fun _ _ _ h => h) (Or.inr ⟨by rfl, rfl⟩) (by assumption) ?_
          try simp only [Act.put, List.getElem_toArray, List.getElem_cons_zero, List.getElem_cons_succ, List.setIfInBounds_toArray, List.set_cons_zero, List.set_cons_succ]
          refine wpAnyH_take (i := 5) (v := undef) rfl (by kernel_rfl) (by kernel_rfl) (by kernel_rfl) (fun _ _ _ h => h) (Or.inr ⟨by rfl, rfl⟩) (by assumption) ?_
          try simp only [Act.put, List.getElem_toArray, List.getElem_cons_zero, List.getElem_cons_succ, List.setIfInBounds_toArray, List.set_cons_zero, List.set_cons_succ]
          refine wpAnyH_take (i := 6) (v := undef) rfl (by kernel_rfl) (by kernel_rfl) (by kernel_rfl) (fun _ _ _ h => h) (Or.inr ⟨by rfl, rfl⟩) (by assumption) ?_
          try simp only [Act.put, List.getElem_toArray, List.getElem_cons_zero, List.getElem_cons_succ, List.setIfInBounds_toArray, List.set_cons_zero, List.set_cons_succ]
          refine wpAnyH_take (i := 7) (v := undef) rfl (by kernel_rfl) (by kernel_rfl) (by kernel_rfl) (fun _ _ _ h => h) (Or.inr ⟨by rfl, rfl⟩) (by assumption) ?_
          try simp only [Act.put, List.getElem_toArray, List.getElem_cons_zero, List.getElem_cons_succ, List.setIfInBounds_toArray, List.set_cons_zero, List.set_cons_succ]
          refine wpAnyH_take (i := 8) (v := undef) rfl (by kernel_rfl) (by kernel_rfl) (by kernel_rfl) (fun _ _ _ h => h) (Or.inr ⟨by rfl, rfl⟩) (by assumption) ?_
          try simp only [Act.put, List.getElem_toArray, List.getElem_cons_zero, List.getElem_cons_succ, List.setIfInBounds_toArray, List.set_cons_zero, List.set_cons_succ]
          refine wpAnyH_take (i := 9) (v := undef) rfl (by kernel_rfl) (by kernel_rfl) (by kernel_rfl) (fun _ _ _ h => h) (Or.inr ⟨by rfl, rfl⟩) (by assumption) ?_
          try simp only [Act.put, List.getElem_toArray, List.getElem_cons_zero, List.getElem_cons_succ, List.setIfInBounds_toArray, List.set_cons_zero, List.set_cons_succ]
          refine wpAnyH_take (i := 10) (v := undef) rfl (by kernel_rfl) (by kernel_rfl) (by kernel_rfl) (fun _ _ _ h => h) (Or.inr ⟨by rfl, rfl⟩) (by assumption) ?_
          try simp only [Act.put, List.getElem_toArray, List.getElem_cons_zero, List.getElem_cons_succ, List.setIfInBounds_toArray, List.set_cons_zero, List.set_cons_succ]
          refine wpAnyH_take (i := 11) (v := ?_) rfl (by kernel_rfl) (by kernel_rfl) (by kernel_rfl) (fun _ _ _ h => h) (Or.inl ⟨by rfl, fun V hV => ?_⟩) (by assumption) ?_
          rotate_left
          · go_simp
            try with_reducible rfl
          try simp only [Act.put, List.getElem_toArray, List.getElem_cons_zero, List.getElem_cons_succ, List.setIfInBounds_toArray, List.set_cons_zero, List.set_cons_succ]
          refine wpAnyH_done (by kernel_rfl) ?_ _
          have H9 := hid hS.1
          replace HR := hid (HR.out.below hS.2)
          replace HRL := hid (HRL.out.below hS.2)
          clear hS
          have e0 := (StoAt.of H9.out.cell).c0; have e1 := (StoAt.of H9.out.cell).c1; have e2 := (StoAt.of H9.out.cell).c2; have e3 := (StoAt.of H9.out.cell).c3; have e4 := (StoAt.of H9.out.cell).c4; have e5 := (StoAt.of H9.out.cell).c5; have e6 := (StoAt.of H9.out.cell).c6; have e7 := (StoAt.of H9.out.cell).c7; have e8 := (StoAt.of H9.out.cell).c8; have e9 := (StoAt.of H9.out.cell).c9; have e10 := (StoAt.of H9.out.cell).c10; have e11 := (StoAt.of H9.out.cell).c11
          go_wp2_with fail
          (with_reducible refine (bestR_any s p n c ql N dl (truR s) _ HRL.out HNL.out HOK.out HSM.out).mono ?_)
          rintro e w10 ⟨rfl, hb⟩
          have H10 := hid (H9.out.step hb)
          replace HR := hid (HR.out.below hb)
          replace HRL := hid (HRL.out.below hb)
          clear e0 e1 e2 e3 e4 e5 e6 e7 e8 e9 e10 e11 hb
          rw [best_perm (truR_perm HOK.out.pos), ← HBT.out, HB1.out, HB2.out, HB3.out]
          go_wp2_with fail
          refine (awake_any _).mono ?_
          rintro e w99 ⟨rfl, hb⟩
          go_wp2_with fail
          go_ret
          exact ⟨rfl, H10.out.below.trans (hb.mono H10.out.below.size)⟩
        · skip
          cases hy : inB y 0 (s.high - 1)
          · skip
            have HE1 : Hid (sureE s (fineS s x y) = 2) := by show _ = _; rw [HS1.out, HFN.out, hx, hy]; rfl
            have HE2 : Hid (sureE s true = 0) := by show _ = _; rw [HS2.out, if_neg hL]
            rw [HE1.out, HE2.out]
            have hR0 : R.lo = 0 ∧ R.hi = 0 := by rw [← HRR.out, sizesV, if_neg (by rw [HE1.out]; decide)]; exact ⟨rfl, rfl⟩
            rw [hR0.1, hR0.2] at HR
            clear hR0
            have e0 := (StoAt.of H8.out.cell).c0; have e1 := (StoAt.of H8.out.cell).c1; have e2 := (StoAt.of H8.out.cell).c2; have e3 := (StoAt.of H8.out.cell).c3; have e4 := (StoAt.of H8.out.cell).c4; have e5 := (StoAt.of H8.out.cell).c5; have e6 := (StoAt.of H8.out.cell).c6; have e7 := (StoAt.of H8.out.cell).c7; have e8 := (StoAt.of H8.out.cell).c8; have e9 := (StoAt.of H8.out.cell).c9; have e10 := (StoAt.of H8.out.cell).c10; have e11 := (StoAt.of H8.out.cell).c11
            have x0 := (HR.out.2 0 (.int .i64 0) rfl).1; have x1 := (HR.out.2 1 (.int .i64 0) rfl).1
            go_upto_region 13 with (go_at_call 24; refine (in_any _ _ _ _).mono ?_; rintro e wx ⟨rfl, he⟩; have he := he.symm; subst he)
            clear e0 e1 e2 e3 e4 e5 e6 e7 e8 e9 e10 e11 x0 x1 hx hy
            have HBT : Hid (bestV s = bestT s (truthL s)) := by show _ = _; rw [bestV, if_pos HE2.out]
            have HSR : Hid (sureR s = truR s) := by show _ = _; rw [sureR, if_pos HE2.out]
            rw [HSR.out] at HRL ⊢
            obtain ⟨N, hNN⟩ : ∃ N, (truR s).length = N := ⟨_, rfl⟩
            have HNL : Hid (N ≤ 100000) := hid (by have := truR_len HOK.out; omega)
            rw [hNN] at HRL ⊢
            clear hNN
            have HSM := hid (truR_small HOK.out)
            have HSS := hid HOK.out.small
            refine wp_region_held_drew (S := fun V => Boxed1 w #[.int .i64 s.wide, .int .i64 s.high, .int .i64 s.fall, .int .i64 s.a.lo, .int .i64 s.a.hi, .int .i64 s.b.lo, .int .i64 s.b.hi, .int .i64 s.half.lo, .int .i64 s.half.hi, .int .i64 s.peak.lo, .int .i64 s.peak.hi, .slice p n c] 26 V ∧ Below w8.heap.size w8 V) (by kernel_rfl) (⟨H8.out.drew, (Below.refl _ _).drew⟩) (fun hS => ?_)
            simp only [List.size_toArray, List.length_cons, List.length_nil, Nat.reduceAdd, Array.replicate_succ, Array.replicate_zero, List.push_toArray, List.nil_append, List.cons_append]
            refine wpAnyH_take (i := 0) (v := ?_) rfl (by kernel_rfl) (by kernel_rfl) (by kernel_rfl) (fun _ _ _ h => h) (Or.inl ⟨by rfl, fun V hV => ?_⟩) (by assumption) ?_
            rotate_left
            · go_simp
              try with_reducible rfl
            try simp only [Act.put, List.getElem_toArray, List.getElem_cons_zero, List.setIfInBounds_toArray, List.set_cons_zero, List.set_cons_succ]
            refine wpAnyH_take (i := 1) (v := ?_) rfl (by kernel_rfl) (by kernel_rfl) (by kernel_rfl) (fun _ _ _ h => h) (Or.inl ⟨by rfl, fun V hV => ?_⟩) (by assumption) ?_
            rotate_left
            · go_simp
              try with_reducible rfl
            try simp only [Act.put, List.getElem_toArray, List.getElem_cons_zero, List.getElem_cons_succ, List.setIfInBounds_toArray, List.set_cons_zero, List.set_cons_succ]
            refine wpAnyH_take (i := 2) (v := ?_) rfl (by kernel_rfl) (by kernel_rfl) (by kernel_rfl) (fun _ _ _ h => h) (Or.inl ⟨by rfl, fun V hV => ?_⟩) (by assumption) ?_
            rotate_left
            · go_simp
              try with_reducible rfl
            try simp only [Act.put, List.getElem_toArray, List.getElem_cons_zero, List.getElem_cons_succ, List.setIfInBounds_toArray, List.set_cons_zero, List.set_cons_succ]
            refine wpAnyH_take (i := 3) (v := undef) rfl (by kernel_rfl) (by kernel_rfl) (by kernel_rfl) (fun _ _ _ h => h) (Or.inr ⟨by rfl, rfl⟩) (by assumption) ?_
            try simp only [Act.put, List.getElem_toArray, List.getElem_cons_zero, List.getElem_cons_succ, List.setIfInBounds_toArray, List.set_cons_zero, List.set_cons_succ]
            refine wpAnyH_take (i := 4) (v := undef) rfl (by kernel_rfl) (by kernel_rfl) (by kernel_rfl) (fun _ _ _ h => h) (Or.inr ⟨by rfl, rfl⟩) (by assumption) ?_
            try simp only [Act.put, List.getElem_toArray, List.getElem_cons_zero, List.getElem_cons_succ, List.setIfInBounds_toArray, List.set_cons_zero, List.set_cons_succ]
            refine wpAnyH_take (i := 5) (v := undef) rfl (by kernel_rfl) (by kernel_rfl) (by kernel_rfl) (fun _ _ _ h => h) (Or.inr ⟨by rfl, rfl⟩) (by assumption) ?_
            try simp only [Act.put, List.getElem_toArray, List.getElem_cons_zero, List.getElem_cons_succ, List.setIfInBounds_toArray, List.set_cons_zero, List.set_cons_succ]
            refine wpAnyH_take (i := 6) (v := undef) rfl (by kernel_rfl) (by kernel_rfl) (by kernel_rfl) (fun _ _ _ h => h) (Or.inr ⟨by rfl, rfl⟩) (by assumption) ?_
            try simp only [Act.put, List.getElem_toArray, List.getElem_cons_zero, List.getElem_cons_succ, List.setIfInBounds_toArray, List.set_cons_zero, List.set_cons_succ]
            refine wpAnyH_take (i := 7) (v := undef) rfl (by kernel_rfl) (by kernel_rfl) (by kernel_rfl) (fun _ _ _ h => h) (Or.inr ⟨by rfl, rfl⟩) (by assumption) ?_
            try simp only [Act.put, List.getElem_toArray, List.getElem_cons_zero, List.getElem_cons_succ, List.setIfInBounds_toArray, List.set_cons_zero, List.set_cons_succ]
            refine wpAnyH_take (i := 8) (v := undef) rfl (by kernel_rfl) (by kernel_rfl) (by kernel_rfl) (fun _ _ _ h => h) (Or.inr ⟨by rfl, rfl⟩) (by assumption) ?_
            try simp only [Act.put, List.getElem_toArray, List.getElem_cons_zero, List.getElem_cons_succ, List.setIfInBounds_toArray, List.set_cons_zero, List.set_cons_succ]
            refine wpAnyH_take (i := 9) (v := undef) rfl (by kernel_rfl) (by kernel_rfl) (by kernel_rfl) (fun _ _ _ h => h) (Or.inr ⟨by rfl, rfl⟩) (by assumption) ?_
            try simp only [Act.put, List.getElem_toArray, List.getElem_cons_zero, List.getElem_cons_succ, List.setIfInBounds_toArray, List.set_cons_zero, List.set_cons_succ]
            refine wpAnyH_take (i := 10) (v := undef) rfl (by kernel_rfl) (by kernel_rfl) (by kernel_rfl) (fun _ _ _ h => h) (Or.inr ⟨by rfl, rfl⟩) (by assumption) ?_
            try simp only [Act.put, List.getElem_toArray, List.getElem_cons_zero, List.getElem_cons_succ, List.setIfInBounds_toArray, List.set_cons_zero, List.set_cons_succ]
            refine wpAnyH_take (i := 11) (v := ?_) rfl (by kernel_rfl) (by kernel_rfl) (by kernel_rfl) (fun _ _ _ h => h) (Or.inl ⟨by rfl, fun V hV => ?_⟩) (by assumption) ?_
            rotate_left
            · go_simp
              try with_reducible rfl
            try simp only [Act.put, List.getElem_toArray, List.getElem_cons_zero, List.getElem_cons_succ, List.setIfInBounds_toArray, List.set_cons_zero, List.set_cons_succ]
            refine wpAnyH_done (by kernel_rfl) ?_ _
            have H9 := hid hS.1
            replace HR := hid (HR.out.below hS.2)
            replace HRL := hid (HRL.out.below hS.2)
            clear hS
            have e0 := (StoAt.of H9.out.cell).c0; have e1 := (StoAt.of H9.out.cell).c1; have e2 := (StoAt.of H9.out.cell).c2; have e3 := (StoAt.of H9.out.cell).c3; have e4 := (StoAt.of H9.out.cell).c4; have e5 := (StoAt.of H9.out.cell).c5; have e6 := (StoAt.of H9.out.cell).c6; have e7 := (StoAt.of H9.out.cell).c7; have e8 := (StoAt.of H9.out.cell).c8; have e9 := (StoAt.of H9.out.cell).c9; have e10 := (StoAt.of H9.out.cell).c10; have e11 := (StoAt.of H9.out.cell).c11
            go_wp2_with fail
            (with_reducible refine (bestR_any s p n c ql N dl (truR s) _ HRL.out HNL.out HOK.out HSM.out).mono ?_)
            rintro e w10 ⟨rfl, hb⟩
            have H10 := hid (H9.out.step hb)
            replace HR := hid (HR.out.below hb)
            replace HRL := hid (HRL.out.below hb)
            clear e0 e1 e2 e3 e4 e5 e6 e7 e8 e9 e10 e11 hb
            rw [best_perm (truR_perm HOK.out.pos), ← HBT.out, HB1.out, HB2.out, HB3.out]
            go_wp2_with fail
            refine (awake_any _).mono ?_
            rintro e w99 ⟨rfl, hb⟩
            go_wp2_with fail
            go_ret
            exact ⟨rfl, H10.out.below.trans (hb.mono H10.out.below.size)⟩
          · have HX := hid hx; have HY := hid hy
            have HE1 : Hid (sureE s (fineS s x y) = 0) := by show _ = _; rw [HS1.out, HFN.out, hx, hy]; simp [hL]
            have HE2 : Hid (sureE s true = 0) := by show _ = _; rw [HS2.out, if_neg hL]
            rw [HE1.out, HE2.out]
            have e0 := (StoAt.of H8.out.cell).c0; have e1 := (StoAt.of H8.out.cell).c1; have e2 := (StoAt.of H8.out.cell).c2; have e3 := (StoAt.of H8.out.cell).c3; have e4 := (StoAt.of H8.out.cell).c4; have e5 := (StoAt.of H8.out.cell).c5; have e6 := (StoAt.of H8.out.cell).c6; have e7 := (StoAt.of H8.out.cell).c7; have e8 := (StoAt.of H8.out.cell).c8; have e9 := (StoAt.of H8.out.cell).c9; have e10 := (StoAt.of H8.out.cell).c10; have e11 := (StoAt.of H8.out.cell).c11
            have x0 := (HR.out.2 0 (.int .i64 R.lo) rfl).1; have x1 := (HR.out.2 1 (.int .i64 R.hi) rfl).1
            go_upto_region 13 with (go_at_call 24; refine (in_any _ _ _ _).mono ?_; rintro e wx ⟨rfl, he⟩; have he := he.symm; subst he)
            clear e0 e1 e2 e3 e4 e5 e6 e7 e8 e9 e10 e11 x0 x1 hx hy
            have HBT : Hid (bestV s = bestT s (truthL s)) := by show _ = _; rw [bestV, if_pos HE2.out]
            have HSR : Hid (sureR s = truR s) := by show _ = _; rw [sureR, if_pos HE2.out]
            rw [HSR.out] at HRL ⊢
            obtain ⟨N, hNN⟩ : ∃ N, (truR s).length = N := ⟨_, rfl⟩
            have HNL : Hid (N ≤ 100000) := hid (by have := truR_len HOK.out; omega)
            rw [hNN] at HRL ⊢
            clear hNN
            have HSM := hid (truR_small HOK.out)
            have HSS := hid HOK.out.small
            have HXY : Hid (0 ≤ x ∧ x ≤ 11 ∧ 0 ≤ y ∧ y ≤ 11) := hid (by have a := inB_iff.1 HX.out; have b := inB_iff.1 HY.out; omega)
            have HSZ : Hid (sizesR s x y (truR s) = R) := by show _ = _; rw [sizes_law HOK.out x y HL.out, ← HRR.out, sizesV, if_pos HE1.out]
            refine wp_region_held_drew (S := fun V => Boxed1 w #[.int .i64 s.wide, .int .i64 s.high, .int .i64 s.fall, .int .i64 s.a.lo, .int .i64 s.a.hi, .int .i64 s.b.lo, .int .i64 s.b.hi, .int .i64 s.half.lo, .int .i64 s.half.hi, .int .i64 s.peak.lo, .int .i64 s.peak.hi, .slice p n c] 26 V ∧ Below w8.heap.size w8 V) (by kernel_rfl) (⟨H8.out.drew, (Below.refl _ _).drew⟩) (fun hS => ?_)
            simp only [List.size_toArray, List.length_cons, List.length_nil, Nat.reduceAdd, Array.replicate_succ, Array.replicate_zero, List.push_toArray, List.nil_append, List.cons_append]
            refine wpAnyH_take (i := 0) (v := ?_) rfl (by kernel_rfl) (by kernel_rfl) (by kernel_rfl) (fun _ _ _ h => h) (Or.inl ⟨by rfl, fun V hV => ?_⟩) (by assumption) ?_
            rotate_left
            · go_simp
              try with_reducible rfl
            try simp only [Act.put, List.getElem_toArray, List.getElem_cons_zero, List.setIfInBounds_toArray, List.set_cons_zero, List.set_cons_succ]
            refine wpAnyH_take (i := 1) (v := ?_) rfl (by kernel_rfl) (by kernel_rfl) (by kernel_rfl) (fun _ _ _ h => h) (Or.inl ⟨by rfl, fun V hV => ?_⟩) (by assumption) ?_
            rotate_left
            · go_simp
              try with_reducible rfl
            try simp only [Act.put, List.getElem_toArray, List.getElem_cons_zero, List.getElem_cons_succ, List.setIfInBounds_toArray, List.set_cons_zero, List.set_cons_succ]
            refine wpAnyH_take (i := 2) (v := ?_) rfl (by kernel_rfl) (by kernel_rfl) (by kernel_rfl) (fun _ _ _ h => h) (Or.inl ⟨by rfl, fun V hV => ?_⟩) (by assumption) ?_
            rotate_left
            · go_simp
              try with_reducible rfl
            try simp only [Act.put, List.getElem_toArray, List.getElem_cons_zero, List.getElem_cons_succ, List.setIfInBounds_toArray, List.set_cons_zero, List.set_cons_succ]
            refine wpAnyH_take (i := 3) (v := ?_) rfl (by kernel_rfl) (by kernel_rfl) (by kernel_rfl) (fun _ _ _ h => h) (Or.inl ⟨by rfl, fun V hV => ?_⟩) (by assumption) ?_
            rotate_left
            · have hX := HR.out.below hV.2; have x0 := (hX.2 0 (.int .i64 R.lo) rfl).1; have x1 := (hX.2 1 (.int .i64 R.hi) rfl).1; go_simp
              try with_reducible rfl
            try simp only [Act.put, List.getElem_toArray, List.getElem_cons_zero, List.getElem_cons_succ, List.setIfInBounds_toArray, List.set_cons_zero, List.set_cons_succ]
            refine wpAnyH_take (i := 4) (v := ?_) rfl (by kernel_rfl) (by kernel_rfl) (by kernel_rfl) (fun _ _ _ h => h) (Or.inl ⟨by rfl, fun V hV => ?_⟩) (by assumption) ?_
            rotate_left
            · have e0 := (StoAt.of hV.1.cell).c0; have e1 := (StoAt.of hV.1.cell).c1; have e2 := (StoAt.of hV.1.cell).c2; have e3 := (StoAt.of hV.1.cell).c3; have e4 := (StoAt.of hV.1.cell).c4; have e5 := (StoAt.of hV.1.cell).c5; have e6 := (StoAt.of hV.1.cell).c6; have e7 := (StoAt.of hV.1.cell).c7; have e8 := (StoAt.of hV.1.cell).c8; have e9 := (StoAt.of hV.1.cell).c9; have e10 := (StoAt.of hV.1.cell).c10; have e11 := (StoAt.of hV.1.cell).c11; go_simp
              try with_reducible rfl
            try simp only [Act.put, List.getElem_toArray, List.getElem_cons_zero, List.getElem_cons_succ, List.setIfInBounds_toArray, List.set_cons_zero, List.set_cons_succ]
            refine wpAnyH_take (i := 5) (v := ?_) rfl (by kernel_rfl) (by kernel_rfl) (by kernel_rfl) (fun _ _ _ h => h) (Or.inl ⟨by rfl, fun V hV => ?_⟩) (by assumption) ?_
            rotate_left
            · go_simp
              try with_reducible rfl
            try simp only [Act.put, List.getElem_toArray, List.getElem_cons_zero, List.getElem_cons_succ, List.setIfInBounds_toArray, List.set_cons_zero, List.set_cons_succ]
            refine wpAnyH_take (i := 6) (v := ?_) rfl (by kernel_rfl) (by kernel_rfl) (by kernel_rfl) (fun _ _ _ h => h) (Or.inl ⟨by rfl, fun V hV => ?_⟩) (by assumption) ?_
            rotate_left
            · go_simp
              try with_reducible rfl
            try simp only [Act.put, List.getElem_toArray, List.getElem_cons_zero, List.getElem_cons_succ, List.setIfInBounds_toArray, List.set_cons_zero, List.set_cons_succ]
            refine wpAnyH_take (i := 7) (v := ?_) rfl (by kernel_rfl) (by kernel_rfl) (by kernel_rfl) (fun _ _ _ h => h) (Or.inl ⟨by rfl, fun V hV => ?_⟩) (by assumption) ?_
            rotate_left
            · go_simp
              try with_reducible rfl
            try simp only [Act.put, List.getElem_toArray, List.getElem_cons_zero, List.getElem_cons_succ, List.setIfInBounds_toArray, List.set_cons_zero, List.set_cons_succ]
            refine wpAnyH_ready (rs := [8]) (by kernel_rfl) (by simp) ?_
            refine AllReadyH.cons (o := _) rfl (fun K hK => ?_) AllReadyH.nil
            go_simp
            (with_reducible refine (sizesR_any s p n c ql N dl (truR s) x y _ (HRL.out.below hS.2) HNL.out HSS.out HSM.out HXY.out.1 HXY.out.2.1 HXY.out.2.2.1 HXY.out.2.2.2).mono ?_)
            rintro e s8 ⟨rfl, hb⟩
            rw [HSZ.out]
            refine hK.out _ _ (⟨hS.1.step hb, hS.2.trans (hb.mono hS.2.size)⟩) (fun hS => ?_)
            clear hK K
            try simp only [List.setIfInBounds_toArray, List.set_cons_zero, List.set_cons_succ]
            refine wpAnyH_ready (rs := [9]) (by kernel_rfl) (by simp) ?_
            refine AllReadyH.cons (o := _) rfl (fun K hK => ?_) AllReadyH.nil
            go_simp
            (with_reducible refine (to_any R _).mono ?_)
            rintro e s9 ⟨rfl, hb⟩
            refine hK.out _ _ (⟨hS.1.step hb, hS.2.trans (hb.mono hS.2.size)⟩) (fun hS => ?_)
            clear hK K
            try simp only [List.setIfInBounds_toArray, List.set_cons_zero, List.set_cons_succ]
            refine wpAnyH_take (i := 10) (v := ?_) rfl (by kernel_rfl) (by kernel_rfl) (by kernel_rfl) (fun _ _ _ h => h) (Or.inl ⟨by rfl, fun V hV => ?_⟩) (by assumption) ?_
            rotate_left
            · go_simp
              try with_reducible rfl
            try simp only [Act.put, List.getElem_toArray, List.getElem_cons_zero, List.getElem_cons_succ, List.setIfInBounds_toArray, List.set_cons_zero, List.set_cons_succ]
            refine wpAnyH_take (i := 11) (v := ?_) rfl (by kernel_rfl) (by kernel_rfl) (by kernel_rfl) (fun _ _ _ h => h) (Or.inl ⟨by rfl, fun V hV => ?_⟩) (by assumption) ?_
            rotate_left
            · go_simp
              try with_reducible rfl
            try simp only [Act.put, List.getElem_toArray, List.getElem_cons_zero, List.getElem_cons_succ, List.setIfInBounds_toArray, List.set_cons_zero, List.set_cons_succ]
            refine wpAnyH_done (by kernel_rfl) ?_ _
            have H9 := hid hS.1
            replace HR := hid (HR.out.below hS.2)
            replace HRL := hid (HRL.out.below hS.2)
            clear hS
            have e0 := (StoAt.of H9.out.cell).c0; have e1 := (StoAt.of H9.out.cell).c1; have e2 := (StoAt.of H9.out.cell).c2; have e3 := (StoAt.of H9.out.cell).c3; have e4 := (StoAt.of H9.out.cell).c4; have e5 := (StoAt.of H9.out.cell).c5; have e6 := (StoAt.of H9.out.cell).c6; have e7 := (StoAt.of H9.out.cell).c7; have e8 := (StoAt.of H9.out.cell).c8; have e9 := (StoAt.of H9.out.cell).c9; have e10 := (StoAt.of H9.out.cell).c10; have e11 := (StoAt.of H9.out.cell).c11
            go_wp2_with fail
            (with_reducible refine (bestR_any s p n c ql N dl (truR s) _ HRL.out HNL.out HOK.out HSM.out).mono ?_)
            rintro e w10 ⟨rfl, hb⟩
            have H10 := hid (H9.out.step hb)
            replace HR := hid (HR.out.below hb)
            replace HRL := hid (HRL.out.below hb)
            clear e0 e1 e2 e3 e4 e5 e6 e7 e8 e9 e10 e11 hb
            rw [best_perm (truR_perm HOK.out.pos), ← HBT.out, HB1.out, HB2.out, HB3.out]
            go_wp2_with fail
            refine (awake_any _).mono ?_
            rintro e w99 ⟨rfl, hb⟩
            go_wp2_with fail
            go_ret
            exact ⟨rfl, H10.out.below.trans (hb.mono H10.out.below.size)⟩
    · have HE1 : Hid (sureE s (fineS s x y) = faultS s) := by show _ = _; rw [sureE, if_neg hF]
      have HE2 : Hid (sureE s true = faultS s) := by show _ = _; rw [sureE, if_neg hF]
      have hR0 : R.lo = 0 ∧ R.hi = 0 := by rw [← HRR.out, sizesV, if_neg (by rw [HE1.out]; exact hF)]; exact ⟨rfl, rfl⟩
      rw [hR0.1, hR0.2] at HR
      clear hR0
      have hb0 : bestV s = (0, 0, 0) := by rw [bestV, if_neg (by rw [HE2.out]; exact hF)]
      have hb1 : B1 = 0 := by rw [← HB1.out, hb0]
      have hb2 : B2 = 0 := by rw [← HB2.out, hb0]
      have hb3 : B3 = 0 := by rw [← HB3.out, hb0]
      subst hb1 hb2 hb3
      clear hb0
      rw [HE1.out, HE2.out]
      obtain ⟨F, hFF⟩ : ∃ F, faultS s = F := ⟨_, rfl⟩
      rw [hFF] at hF ⊢
      have hF1 : (F == 0) = false := by simpa using hF
      have hF2 : (F != 0) = true := by simpa using hF
      clear hFF HE1 HE2
      have x0 := (HR.out.2 0 (.int .i64 0) rfl).1; have x1 := (HR.out.2 1 (.int .i64 0) rfl).1
      go_wp2_with fail
      refine (awake_any _).mono ?_
      rintro e w99 ⟨rfl, hb⟩
      go_wp2_with fail
      go_ret
      exact ⟨rfl, H8.out.below.trans (hb.mono H8.out.below.size)⟩
end Go.Proofs.Ytfnefkenheglhaa
