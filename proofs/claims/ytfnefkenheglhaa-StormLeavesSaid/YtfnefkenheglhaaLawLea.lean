/- StormLeaves: the first wrong card, the smallest set and the smallest clash of any storm are as the document says, or the error is: all sets are tried. For each storm. -/
import Derived.Test.YtfnefkenheglhaaA13
import Derived.Test.YtfnefkenheglhaaLawB
import Derived.Test.YtfnefkenheglhaaLawAwake
namespace Go.Proofs.Ytfnefkenheglhaa
open Go.RowKit

theorem thin_n {s : Sto} (h : thinB s = true) : s.cards.length ≤ 9 := by
  unfold thinB at h
  rw [Bool.and_eq_true, decide_eq_true_eq] at h
  exact h.1
theorem rightN_lt (s : Sto) (hn : s.cards.length ≤ 9) : ∀ a ∈ allR' s, a < 4096 := by
  intro a ha
  obtain ⟨m, _, rfl⟩ := List.mem_map.1 ha
  have h1 := numOf_lt (fitN s (nthS s m)) s.cards.length
  have h2 : 2 ^ s.cards.length ≤ 2 ^ 9 := Nat.pow_le_pow_right (by decide) hn
  show numOf _ _ < 4096
  omega

set_option maxRecDepth 40000 in
set_option maxHeartbeats 16000000 in
theorem stormLeaves_any (s : Sto) (p : Option Addr) (n c : Nat) (w : World) (hcs : CrdsAt w p n s.cards) :
    Calls Try.prog 4 #[.agg #[.int .i64 s.wide, .int .i64 s.high, .int .i64 s.fall, .int .i64 s.a.lo, .int .i64 s.a.hi, .int .i64 s.b.lo, .int .i64 s.b.hi, .int .i64 s.half.lo, .int .i64 s.half.hi, .int .i64 s.peak.lo, .int .i64 s.peak.hi, .slice p n c]] w fun e w' => e = .returned (.bool true) ∧ Below w.heap.size w w' := by
  have HC := hid hcs
  have HTH := hid (fun W (hb : Below w.heap.size w W) => thin_any s p n c W (hcs.below hb))
  have HFL := hid (fun W (hb : Below w.heap.size w W) => faultL_any s p n c W (hcs.below hb))
  clear hcs
  have H0 : Hid (Boxed1 w #[.int .i64 s.wide, .int .i64 s.high, .int .i64 s.fall, .int .i64 s.a.lo, .int .i64 s.a.hi, .int .i64 s.b.lo, .int .i64 s.b.hi, .int .i64 s.half.lo, .int .i64 s.half.hi, .int .i64 s.peak.lo, .int .i64 s.peak.hi, .slice p n c] 26 (w.alloc (.cells #[.int .i64 s.wide, .int .i64 s.high, .int .i64 s.fall, .int .i64 s.a.lo, .int .i64 s.a.hi, .int .i64 s.b.lo, .int .i64 s.b.hi, .int .i64 s.half.lo, .int .i64 s.half.hi, .int .i64 s.peak.lo, .int .i64 s.peak.hi, .slice p n c] 26))) := Boxed1.start _ _ _
  go_enter Try.func4, Try.ntmps4
  go_wp2_with fail
  (with_reducible refine (HTH.out _ ?_).mono ?_)
  · exact H0.out.below
  rintro e w1 ⟨rfl, hb⟩
  have H1 := hid (H0.out.step hb)
  clear hb
  cases hth : thinB s
  · clear hth
    go_wp2_with fail
    refine (awake_any _).mono ?_
    rintro e w99 ⟨rfl, hb⟩
    go_wp2_with fail
    go_ret
    exact ⟨rfl, H1.out.below.trans (hb.mono H1.out.below.size)⟩
  · have hn9 := thin_n hth
    have HN : Hid (n ≤ 1000) := hid (by have := HC.out.1; omega)
    clear hth
    have e0 := (StoAt.of H1.out.cell).c0; have e1 := (StoAt.of H1.out.cell).c1; have e2 := (StoAt.of H1.out.cell).c2; have e3 := (StoAt.of H1.out.cell).c3; have e4 := (StoAt.of H1.out.cell).c4; have e5 := (StoAt.of H1.out.cell).c5; have e6 := (StoAt.of H1.out.cell).c6; have e7 := (StoAt.of H1.out.cell).c7; have e8 := (StoAt.of H1.out.cell).c8; have e9 := (StoAt.of H1.out.cell).c9; have e10 := (StoAt.of H1.out.cell).c10; have e11 := (StoAt.of H1.out.cell).c11
    go_wp2_with fail
    refine (storm20_any s p n c w1 (HC.out.below H1.out.below) HN.out).mono ?_
    rintro e w2 ⟨q1, m1, d1, rfl, hc, hb⟩
    have H2 := hid (H1.out.step hb)
    have HK1 := hid hc
    clear e0 e1 e2 e3 e4 e5 e6 e7 e8 e9 e10 e11 hb hc
    go_wp2_with fail
    refine (first_any s q1 m1 d1 w2 HK1.out).mono ?_
    rintro e w3 ⟨rfl, hb⟩
    have H3 := hid (H2.out.step hb)
    replace HK1 := hid (HK1.out.below hb)
    clear hb
    have e0 := (StoAt.of H3.out.cell).c0; have e1 := (StoAt.of H3.out.cell).c1; have e2 := (StoAt.of H3.out.cell).c2; have e3 := (StoAt.of H3.out.cell).c3; have e4 := (StoAt.of H3.out.cell).c4; have e5 := (StoAt.of H3.out.cell).c5; have e6 := (StoAt.of H3.out.cell).c6; have e7 := (StoAt.of H3.out.cell).c7; have e8 := (StoAt.of H3.out.cell).c8; have e9 := (StoAt.of H3.out.cell).c9; have e10 := (StoAt.of H3.out.cell).c10; have e11 := (StoAt.of H3.out.cell).c11
    go_wp2_with fail
    refine (storm20_any s p n c w3 (HC.out.below H3.out.below) HN.out).mono ?_
    rintro e w4 ⟨q2, m2, d2, rfl, hc, hb⟩
    have H4 := hid (H3.out.step hb)
    replace HK1 := hid (HK1.out.below hb)
    have HK2 := hid hc
    clear e0 e1 e2 e3 e4 e5 e6 e7 e8 e9 e10 e11 hb hc
    go_wp2_with fail
    refine (leave_any s q2 m2 d2 w4 HK2.out).mono ?_
    rintro e w5 ⟨ql, kl, dl, rfl, hz, hx, hb⟩
    have H5 := hid (H4.out.step hb)
    replace HK2 := hid (HK2.out.below hb)
    have HZL := hid hz
    have HXL := hid (fun h X hX => (hx h X hX))
    clear hb hz hx
    have HWL := hid (Below.refl w5.heap.size w5)
    have e0 := (StoAt.of H5.out.cell).c0; have e1 := (StoAt.of H5.out.cell).c1; have e2 := (StoAt.of H5.out.cell).c2; have e3 := (StoAt.of H5.out.cell).c3; have e4 := (StoAt.of H5.out.cell).c4; have e5 := (StoAt.of H5.out.cell).c5; have e6 := (StoAt.of H5.out.cell).c6; have e7 := (StoAt.of H5.out.cell).c7; have e8 := (StoAt.of H5.out.cell).c8; have e9 := (StoAt.of H5.out.cell).c9; have e10 := (StoAt.of H5.out.cell).c10; have e11 := (StoAt.of H5.out.cell).c11
    go_wp2_with fail
    refine (storm20_any s p n c w5 (HC.out.below H5.out.below) HN.out).mono ?_
    rintro e w6 ⟨q3, m3, d3, rfl, hc, hb⟩
    have H6 := hid (H5.out.step hb)
    replace HWL := hid (HWL.out.trans (hb.mono HWL.out.size))
    have HK3 := hid hc
    clear e0 e1 e2 e3 e4 e5 e6 e7 e8 e9 e10 e11 hb hc
    go_wp2_with fail
    refine (clashP_any s q3 m3 d3 w6 HK3.out).mono ?_
    rintro e w7 ⟨qc, kc, dc, rfl, hz, hx, hb⟩
    have H7 := hid (H6.out.step hb)
    replace HK3 := hid (HK3.out.below hb)
    replace HWL := hid (HWL.out.trans (hb.mono HWL.out.size))
    have HZC := hid hz
    have HXC := hid hx
    have HWC := hid (Below.refl w7.heap.size w7)
    clear hb hz hx
    have e0 := (StoAt.of H7.out.cell).c0; have e1 := (StoAt.of H7.out.cell).c1; have e2 := (StoAt.of H7.out.cell).c2; have e3 := (StoAt.of H7.out.cell).c3; have e4 := (StoAt.of H7.out.cell).c4; have e5 := (StoAt.of H7.out.cell).c5; have e6 := (StoAt.of H7.out.cell).c6; have e7 := (StoAt.of H7.out.cell).c7; have e8 := (StoAt.of H7.out.cell).c8; have e9 := (StoAt.of H7.out.cell).c9; have e10 := (StoAt.of H7.out.cell).c10; have e11 := (StoAt.of H7.out.cell).c11
    go_wp2_with fail
    (with_reducible refine (HFL.out _ ?_).mono ?_)
    · exact H7.out.below
    rintro e w8 ⟨rfl, hb⟩
    have H8 := hid (H7.out.step hb)
    replace HWL := hid (HWL.out.trans (hb.mono HWL.out.size))
    replace HWC := hid (HWC.out.trans (hb.mono HWC.out.size))
    clear e0 e1 e2 e3 e4 e5 e6 e7 e8 e9 e10 e11 hb
    by_cases hF : faultS s = 0
    · have HOK := hid (fault_iff.1 hF)
      have HF0 := hid hF
      have HFE : Hid (firstE s = if firstM s = s.cards.length then 7 else 0) := by show _ = _; rw [firstE, if_pos hF]
      have HFV : Hid (firstV s = if firstM s = s.cards.length then 0 else firstM s) := by show _ = _; rw [firstV, if_pos hF]
      have HCE : Hid (clashE s = if (clashR s).isSome = true then 0 else 7) := by show _ = _; rw [clashE, if_pos hF, clashR_law HOK.out]
      have hxl := HXL.out hF _ (leaveR_law HOK.out)
      have HXL2 := hid hxl
      have HXC2 := hid (fun X (hX : clashR s = some X) => HXC.out HF0.out X ((clashR_law HOK.out).trans hX))
      have hn6 : n ≤ 6 := by have := HC.out.1; have := HOK.out.n6; omega
      have HKL : Hid (kl ≤ 1000) := hid (by rw [hxl.1]; exact Nat.le_trans (bestL_len _ _) (by omega))
      have HLR : Hid (bestL (fun b => canN (allR' s) (andN (2 ^ n - 1) b)) n = leaveR s) := by show _ = _; rw [HC.out.1]; rfl
      have HFR : Hid (firstG (fun j => canN (allR' s) (2 ^ (j + 1) - 1)) 0 n = firstR s) := by show _ = _; rw [HC.out.1]; rfl
      have HCR : Hid (clashG (fun b => canN (allR' s) b) 1 (2 ^ n - 1) none = clashR s) := by show _ = _; rw [HC.out.1]; rfl
      have HRL := hid (rightN_lt s (by have := HC.out.1; omega))
      have HNA : Hid ((castL (allR' s)).length ≤ 1000000) := hid (by have := HOK.out.many; show (castL (allTo s (manyS s).toNat)).length ≤ _; rw [allTo_len]; omega)
      rw [hF]
      clear hF hxl HXL HXC HZL
      have e0 := (StoAt.of H8.out.cell).c0; have e1 := (StoAt.of H8.out.cell).c1; have e2 := (StoAt.of H8.out.cell).c2; have e3 := (StoAt.of H8.out.cell).c3; have e4 := (StoAt.of H8.out.cell).c4; have e5 := (StoAt.of H8.out.cell).c5; have e6 := (StoAt.of H8.out.cell).c6; have e7 := (StoAt.of H8.out.cell).c7; have e8 := (StoAt.of H8.out.cell).c8; have e9 := (StoAt.of H8.out.cell).c9; have e10 := (StoAt.of H8.out.cell).c10; have e11 := (StoAt.of H8.out.cell).c11
      go_wp2_with fail
      refine (all_any s p n c w8 (HC.out.below H8.out.below) HOK.out).mono ?_
      rintro e w9 ⟨v, rfl, hown, hb⟩
      have H9 := hid (H8.out.step hb)
      replace HWL := hid (HWL.out.trans (hb.mono HWL.out.size))
      replace HWC := hid (HWC.out.trans (hb.mono HWC.out.size))
      obtain ⟨qa, da, rfl, hl⟩ := hown.slice
      have HLA := hid hl
      clear e0 e1 e2 e3 e4 e5 e6 e7 e8 e9 e10 e11 hb hown hl
      obtain ⟨NA, hNA⟩ : ∃ NA, (castL (allR' s)).length = NA := ⟨_, rfl⟩
      rw [hNA] at HLA HNA ⊢
      clear hNA
      have e0 := (StoAt.of H9.out.cell).c0; have e1 := (StoAt.of H9.out.cell).c1; have e2 := (StoAt.of H9.out.cell).c2; have e3 := (StoAt.of H9.out.cell).c3; have e4 := (StoAt.of H9.out.cell).c4; have e5 := (StoAt.of H9.out.cell).c5; have e6 := (StoAt.of H9.out.cell).c6; have e7 := (StoAt.of H9.out.cell).c7; have e8 := (StoAt.of H9.out.cell).c8; have e9 := (StoAt.of H9.out.cell).c9; have e10 := (StoAt.of H9.out.cell).c10; have e11 := (StoAt.of H9.out.cell).c11
      go_wp2_with fail
      refine (leaveR_any s p n c qa NA da (allR' s) w9 HLA.out HNA.out HRL.out hn6).mono ?_
      rintro e w10 ⟨v, rfl, hown, hb⟩
      have H10 := hid (H9.out.step hb)
      replace HLA := hid (HLA.out.below hb)
      replace HWL := hid (HWL.out.trans (hb.mono HWL.out.size))
      replace HWC := hid (HWC.out.trans (hb.mono HWC.out.size))
      obtain ⟨qb, db, rfl, hl⟩ := hown.slice
      rw [HLR.out] at hl ⊢
      have HLB := hid hl
      have HKB : Hid ((leaveR s).length ≤ 1000) := hid (Nat.le_trans (bestL_len _ _) (by have := HC.out.1; omega))
      clear e0 e1 e2 e3 e4 e5 e6 e7 e8 e9 e10 e11 hb hown hl
      go_wp2_with fail
      refine (ints_any ql kl dl (leaveR s) qb (leaveR s).length db (leaveR s) w10 (HXL2.out.below HWL.out) HLB.out (by have := HKL.out; omega) (by have := HKB.out; omega)).mono ?_
      rintro e w11 ⟨rfl, hb⟩
      have H11 := hid (H10.out.step hb)
      replace HLA := hid (HLA.out.below hb)
      replace HWL := hid (HWL.out.trans (hb.mono HWL.out.size))
      replace HWC := hid (HWC.out.trans (hb.mono HWC.out.size))
      rw [decide_eq_true (rfl : leaveR s = leaveR s)]
      clear hb
      have e0 := (StoAt.of H11.out.cell).c0; have e1 := (StoAt.of H11.out.cell).c1; have e2 := (StoAt.of H11.out.cell).c2; have e3 := (StoAt.of H11.out.cell).c3; have e4 := (StoAt.of H11.out.cell).c4; have e5 := (StoAt.of H11.out.cell).c5; have e6 := (StoAt.of H11.out.cell).c6; have e7 := (StoAt.of H11.out.cell).c7; have e8 := (StoAt.of H11.out.cell).c8; have e9 := (StoAt.of H11.out.cell).c9; have e10 := (StoAt.of H11.out.cell).c10; have e11 := (StoAt.of H11.out.cell).c11
      go_wp2_with fail
      refine (clashR_any s p n c qa NA da (allR' s) w11 HLA.out HNA.out HRL.out hn6).mono ?_
      rintro e w12 ⟨v, rfl, hown, hb⟩
      have H12 := hid (H11.out.step hb)
      replace HLA := hid (HLA.out.below hb)
      replace HWL := hid (HWL.out.trans (hb.mono HWL.out.size))
      replace HWC := hid (HWC.out.trans (hb.mono HWC.out.size))
      rw [HCR.out] at hown ⊢
      obtain ⟨qe, de, rfl, hl⟩ := hown.slice
      have HLE := hid hl
      clear e0 e1 e2 e3 e4 e5 e6 e7 e8 e9 e10 e11 hb hown hl
      cases hcr : clashR s with
      | none =>
        have hfm := (clash_none HOK.out).1 hcr
        have HCE2 : Hid (clashE s = 7) := by show _ = _; rw [HCE.out, hcr]; rfl
        have HFE2 : Hid (firstE s = 7) := by show _ = _; rw [HFE.out, if_pos hfm]
        have HFV2 : Hid (firstV s = 0) := by show _ = _; rw [HFV.out, if_pos hfm]
        obtain ⟨rfl, rfl, rfl⟩ := HZC.out (by rw [HCE2.out]; decide)
        rw [HCE2.out, HFE2.out, HFV2.out]
        simp only [Option.isSome_none, Option.getD_none]
        clear hcr hfm
        go_wp2_with fail
        refine (awake_any _).mono ?_
        rintro e w99 ⟨rfl, hb⟩
        go_wp2_with fail
        go_ret
        exact ⟨rfl, H12.out.below.trans (hb.mono H12.out.below.size)⟩
      | some C =>
        have hfm : ¬ firstM s = s.cards.length := fun h => by rw [(clash_none HOK.out).2 h] at hcr; cases hcr
        have HCE2 : Hid (clashE s = 0) := by show _ = _; rw [HCE.out, hcr]; rfl
        have HFE2 : Hid (firstE s = 0) := by show _ = _; rw [HFE.out, if_neg hfm]
        have HFV2 : Hid (firstV s = firstR s) := by show _ = _; rw [HFV.out, if_neg hfm, firstR_law HOK.out, if_neg hfm]
        have hxc := HXC2.out C hcr
        have HXC3 := hid (hxc.below HWC.out)
        have HKC : Hid (kc ≤ 1000) := hid (by rw [hxc.1]; exact clashR_len HOK.out hcr)
        rw [hcr] at HLE
        simp only [Option.getD_some] at HLE
        rw [HCE2.out, HFE2.out, HFV2.out]
        simp only [Option.isSome_some, Option.getD_some]
        have HKC2 : Hid (C.length ≤ 1000) := hid (by have h := HKC.out; rw [hxc.1] at h; exact h)
        clear hcr hfm hxc
        have e0 := (StoAt.of H12.out.cell).c0; have e1 := (StoAt.of H12.out.cell).c1; have e2 := (StoAt.of H12.out.cell).c2; have e3 := (StoAt.of H12.out.cell).c3; have e4 := (StoAt.of H12.out.cell).c4; have e5 := (StoAt.of H12.out.cell).c5; have e6 := (StoAt.of H12.out.cell).c6; have e7 := (StoAt.of H12.out.cell).c7; have e8 := (StoAt.of H12.out.cell).c8; have e9 := (StoAt.of H12.out.cell).c9; have e10 := (StoAt.of H12.out.cell).c10; have e11 := (StoAt.of H12.out.cell).c11
        go_wp2_with fail
        refine (firstR_any s p n c qa NA da (allR' s) w12 HLA.out HNA.out HRL.out hn6).mono ?_
        rintro e w13 ⟨rfl, hb⟩
        have H13 := hid (H12.out.step hb)
        replace HLA := hid (HLA.out.below hb)
        replace HLE := hid (HLE.out.below hb)
        replace HXC3 := hid (HXC3.out.below hb)
        replace HWL := hid (HWL.out.trans (hb.mono HWL.out.size))
        replace HWC := hid (HWC.out.trans (hb.mono HWC.out.size))
        rw [HFR.out]
        clear e0 e1 e2 e3 e4 e5 e6 e7 e8 e9 e10 e11 hb
        go_wp2_with fail
        refine (ints_any qc kc dc C qe C.length de C w13 HXC3.out HLE.out (by have := HKC.out; omega) (by have := HKC2.out; omega)).mono ?_
        rintro e w14 ⟨rfl, hb⟩
        have H14 := hid (H13.out.step hb)
        replace HLA := hid (HLA.out.below hb)
        replace HLE := hid (HLE.out.below hb)
        replace HXC3 := hid (HXC3.out.below hb)
        replace HWL := hid (HWL.out.trans (hb.mono HWL.out.size))
        replace HWC := hid (HWC.out.trans (hb.mono HWC.out.size))
        rw [decide_eq_true (rfl : C = C)]
        clear hb
        go_wp2_with fail
        refine (awake_any _).mono ?_
        rintro e w99 ⟨rfl, hb⟩
        go_wp2_with fail
        go_ret
        exact ⟨rfl, H14.out.below.trans (hb.mono H14.out.below.size)⟩
    · have HFE2 : Hid (firstE s = faultS s) := by show _ = _; rw [firstE, if_neg hF]
      have HFV2 : Hid (firstV s = 0) := by show _ = _; rw [firstV, if_neg hF]
      have HCE2 : Hid (clashE s = faultS s) := by show _ = _; rw [clashE, if_neg hF]
      obtain ⟨rfl, rfl, rfl⟩ := HZL.out hF
      obtain ⟨rfl, rfl, rfl⟩ := HZC.out (by rw [HCE2.out]; exact hF)
      rw [HCE2.out, HFE2.out, HFV2.out]
      obtain ⟨F, hFF⟩ : ∃ F, faultS s = F := ⟨_, rfl⟩
      rw [hFF] at hF ⊢
      have hF1 : (F == 0) = false := by simpa using hF
      have hF2 : (F != 0) = true := by simpa using hF
      clear hFF HXL HXC HZL HZC HFE2 HFV2 HCE2
      go_wp2_with fail
      refine (awake_any _).mono ?_
      rintro e w99 ⟨rfl, hb⟩
      go_wp2_with fail
      go_ret
      exact ⟨rfl, H8.out.below.trans (hb.mono H8.out.below.size)⟩
end Go.Proofs.Ytfnefkenheglhaa
