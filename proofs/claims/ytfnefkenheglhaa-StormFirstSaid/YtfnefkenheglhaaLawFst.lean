/- StormFirst: the storm with the cards before the first wrong one has a truth; with this one it has none; if there is no wrong one, the storm has a truth. For each storm. -/
import Derived.Test.YtfnefkenheglhaaPlF
import Derived.Test.YtfnefkenheglhaaLawAwake
namespace Go.Proofs.Ytfnefkenheglhaa
open Go.RowKit
theorem first_bits {k : Nat} (hk : k ≤ 6) : ∃ N : Nat, 2 ^ k = N ∧ 1 ≤ N ∧ N ≤ 64 ∧ wrap64 (2 ^ k) = (N : Int) ∧ wrap64 (2 * 2 ^ k) = 2 * (N : Int) ∧ ((2 ^ k - 1 : Nat) : Int) = (N : Int) - 1 ∧ ((2 ^ (k + 1) - 1 : Nat) : Int) = 2 * (N : Int) - 1 := by
  have : k = 0 ∨ k = 1 ∨ k = 2 ∨ k = 3 ∨ k = 4 ∨ k = 5 ∨ k = 6 := by omega
  rcases this with rfl | rfl | rfl | rfl | rfl | rfl | rfl <;> exact ⟨_, rfl, by decide, by decide, by decide +kernel, by decide +kernel, by decide +kernel, by decide +kernel⟩

set_option maxRecDepth 40000 in
set_option maxHeartbeats 16000000 in
theorem stormFirst_any (s : Sto) (p : Option Addr) (n c : Nat) (w : World) (hcs : CrdsAt w p n s.cards) :
    Calls Try.prog 7 #[.agg #[.int .i64 s.wide, .int .i64 s.high, .int .i64 s.fall, .int .i64 s.a.lo, .int .i64 s.a.hi, .int .i64 s.b.lo, .int .i64 s.b.hi, .int .i64 s.half.lo, .int .i64 s.half.hi, .int .i64 s.peak.lo, .int .i64 s.peak.hi, .slice p n c]] w fun e w' => e = .returned (.bool true) ∧ Below w.heap.size w w' := by
  have HC := hid hcs
  have HRD := hid (fun W (hb : Below w.heap.size w W) => ready_any s p n c W (hcs.below hb))
  clear hcs
  have H0 : Hid (Boxed1 w #[.int .i64 s.wide, .int .i64 s.high, .int .i64 s.fall, .int .i64 s.a.lo, .int .i64 s.a.hi, .int .i64 s.b.lo, .int .i64 s.b.hi, .int .i64 s.half.lo, .int .i64 s.half.hi, .int .i64 s.peak.lo, .int .i64 s.peak.hi, .slice p n c] 26 (w.alloc (.cells #[.int .i64 s.wide, .int .i64 s.high, .int .i64 s.fall, .int .i64 s.a.lo, .int .i64 s.a.hi, .int .i64 s.b.lo, .int .i64 s.b.hi, .int .i64 s.half.lo, .int .i64 s.half.hi, .int .i64 s.peak.lo, .int .i64 s.peak.hi, .slice p n c] 26))) := Boxed1.start _ _ _
  go_enter Try.func7, Try.ntmps7
  go_wp2_with fail
  (with_reducible refine (HRD.out _ ?_).mono ?_)
  · exact H0.out.below
  rintro e w1 ⟨rfl, hb⟩
  have H1 := hid (H0.out.step hb)
  clear hb
  cases hrd : readyB s
  · clear hrd
    go_wp2_with fail
    refine (awake_any _).mono ?_
    rintro e w9 ⟨rfl, hb9⟩
    go_wp2_with fail
    go_ret
    exact ⟨rfl, H1.out.below.trans (hb9.mono H1.out.below.size)⟩
  · have HOK := hid (ready_iff.1 hrd).1
    have hn6 : n ≤ 6 := by have := HC.out.1; have := HOK.out.n6; omega
    clear hrd
    obtain ⟨k, hkM, hkn, hhas, hno⟩ := first_law HOK.out
    rw [← HC.out.1] at hkn hno
    have HF0 := hid (fault_iff.2 HOK.out)
    have HFV : Hid (firstV s = if (k : Int) = (n : Int) then 0 else (k : Int)) := by show _ = _; rw [firstV, if_pos HF0.out, hkM, ← HC.out.1]
    have HFE : Hid (firstE s = if (k : Int) = (n : Int) then 7 else 0) := by show _ = _; rw [firstE, if_pos HF0.out, hkM, ← HC.out.1]
    clear hkM
    have HHB := hid hhas; have HNO := hid hno
    clear hhas hno
    have e0 := (StoAt.of H1.out.cell).c0; have e1 := (StoAt.of H1.out.cell).c1; have e2 := (StoAt.of H1.out.cell).c2; have e3 := (StoAt.of H1.out.cell).c3; have e4 := (StoAt.of H1.out.cell).c4; have e5 := (StoAt.of H1.out.cell).c5; have e6 := (StoAt.of H1.out.cell).c6; have e7 := (StoAt.of H1.out.cell).c7; have e8 := (StoAt.of H1.out.cell).c8; have e9 := (StoAt.of H1.out.cell).c9; have e10 := (StoAt.of H1.out.cell).c10; have e11 := (StoAt.of H1.out.cell).c11
    go_wp2_with fail
    refine (storm20_any s p n c w1 (HC.out.below H1.out.below) (by omega)).mono ?_
    rintro e w2 ⟨q, m, d, rfl, hc2, hb⟩
    have H2 := hid (H1.out.step hb)
    have HC2 := hid hc2
    clear hb hc2 e0 e1 e2 e3 e4 e5 e6 e7 e8 e9 e10 e11
    go_wp2_with fail
    refine (first_any s q m d w2 HC2.out).mono ?_
    rintro e w3 ⟨rfl, hb⟩
    have H3 := hid (H2.out.step hb)
    clear hb
    by_cases hkn2 : k = n
    · have HV1 : Hid (firstV s = 0) := by show _ = _; rw [HFV.out, if_pos (by rw [hkn2])]
      have HE1 : Hid (firstE s = 7) := by show _ = _; rw [HFE.out, if_pos (by rw [hkn2])]
      have HHA : Hid (hasT s (everyN n) = true) := by show _ = _; rw [everyN, ← hkn2]; exact HHB.out
      have HEV : Hid (0 ≤ everyN n ∧ everyN n < 4096) := by
        show _ ∧ _
        obtain ⟨N, h1, h2, h3, _, _, h4, _⟩ := first_bits hn6
        have : everyN n = (N : Int) - 1 := h4
        omega
      rw [HV1.out, HE1.out]
      clear hkn2 HNO
      go_upto_region 5 with fail
      refine wp_region_held_drew (S := fun V => Boxed1 w #[.int .i64 s.wide, .int .i64 s.high, .int .i64 s.fall, .int .i64 s.a.lo, .int .i64 s.a.hi, .int .i64 s.b.lo, .int .i64 s.b.hi, .int .i64 s.half.lo, .int .i64 s.half.hi, .int .i64 s.peak.lo, .int .i64 s.peak.hi, .slice p n c] 26 V) (by kernel_rfl) (H3.out.drew) (fun hS => ?_)
      simp only [List.size_toArray, List.length_cons, List.length_nil, Nat.reduceAdd, Array.replicate_succ, Array.replicate_zero, List.push_toArray, List.nil_append, List.cons_append]
      refine wpAnyH_take (i := 0) (v := ?_) rfl (by kernel_rfl) (by kernel_rfl) (by kernel_rfl) (fun _ _ _ h => h) (Or.inl ⟨by rfl, fun V hV => ?_⟩) (by assumption) ?_
      rotate_left
      · have e0 := (StoAt.of hV.cell).c0; have e1 := (StoAt.of hV.cell).c1; have e2 := (StoAt.of hV.cell).c2; have e3 := (StoAt.of hV.cell).c3; have e4 := (StoAt.of hV.cell).c4; have e5 := (StoAt.of hV.cell).c5; have e6 := (StoAt.of hV.cell).c6; have e7 := (StoAt.of hV.cell).c7; have e8 := (StoAt.of hV.cell).c8; have e9 := (StoAt.of hV.cell).c9; have e10 := (StoAt.of hV.cell).c10; have e11 := (StoAt.of hV.cell).c11; go_simp
        try with_reducible rfl
      try simp only [Act.put, List.getElem_toArray, List.getElem_cons_zero, List.setIfInBounds_toArray, List.set_cons_zero, List.set_cons_succ]
      refine wpAnyH_take (i := 1) (v := ?_) rfl (by kernel_rfl) (by kernel_rfl) (by kernel_rfl) (fun _ _ _ h => h) (Or.inl ⟨by rfl, fun V hV => ?_⟩) (by assumption) ?_
      rotate_left
      · have e0 := (StoAt.of hV.cell).c0; have e1 := (StoAt.of hV.cell).c1; have e2 := (StoAt.of hV.cell).c2; have e3 := (StoAt.of hV.cell).c3; have e4 := (StoAt.of hV.cell).c4; have e5 := (StoAt.of hV.cell).c5; have e6 := (StoAt.of hV.cell).c6; have e7 := (StoAt.of hV.cell).c7; have e8 := (StoAt.of hV.cell).c8; have e9 := (StoAt.of hV.cell).c9; have e10 := (StoAt.of hV.cell).c10; have e11 := (StoAt.of hV.cell).c11; go_simp
        try with_reducible rfl
      try simp only [Act.put, List.getElem_toArray, List.getElem_cons_zero, List.getElem_cons_succ, List.setIfInBounds_toArray, List.set_cons_zero, List.set_cons_succ]
      refine wpAnyH_ready (rs := [2]) (by kernel_rfl) (by simp) ?_
      refine AllReadyH.cons (o := _) rfl (fun K hK => ?_) AllReadyH.nil
      go_simp
      (with_reducible refine (every_any s p n c _ (by omega)).mono ?_)
      rintro e s2 ⟨rfl, hb2⟩
      refine hK.out _ _ (hS.step hb2) (fun hS => ?_)
      clear hK K
      try simp only [List.setIfInBounds_toArray, List.set_cons_zero, List.set_cons_succ]
      refine wpAnyH_ready (rs := [3]) (by kernel_rfl) (by simp) ?_
      refine AllReadyH.cons (o := _) rfl (fun K hK => ?_) AllReadyH.nil
      go_simp
      refine (has43_any s p n c (everyN n) _ (HC.out.below hS.below) HOK.out HEV.out.1 HEV.out.2).mono ?_
      rintro e s3 ⟨rfl, hb3⟩
      rw [HHA.out]
      refine hK.out _ _ (hS.step hb3) (fun hS => ?_)
      clear hK K
      try simp only [List.setIfInBounds_toArray, List.set_cons_zero, List.set_cons_succ]
      refine wpAnyH_take (i := 4) (v := ?_) rfl (by kernel_rfl) (by kernel_rfl) (by kernel_rfl) (fun _ _ _ h => h) (Or.inl ⟨by rfl, fun V hV => ?_⟩) (by assumption) ?_
      rotate_left
      · go_simp
        try with_reducible rfl
      try simp only [Act.put, List.getElem_toArray, List.getElem_cons_zero, List.getElem_cons_succ, List.setIfInBounds_toArray, List.set_cons_zero, List.set_cons_succ]
      refine wpAnyH_take (i := 5) (v := ?_) rfl (by kernel_rfl) (by kernel_rfl) (by kernel_rfl) (fun _ _ _ h => h) (Or.inl ⟨by rfl, fun V hV => ?_⟩) (by assumption) ?_
      rotate_left
      · go_simp
        try with_reducible rfl
      try simp only [Act.put, List.getElem_toArray, List.getElem_cons_zero, List.getElem_cons_succ, List.setIfInBounds_toArray, List.set_cons_zero, List.set_cons_succ]
      refine wpAnyH_take (i := 6) (v := ?_) rfl (by kernel_rfl) (by kernel_rfl) (by kernel_rfl) (fun _ _ _ h => h) (Or.inl ⟨by rfl, fun V hV => ?_⟩) (by assumption) ?_
      rotate_left
      · go_simp
        try with_reducible rfl
      try simp only [Act.put, List.getElem_toArray, List.getElem_cons_zero, List.getElem_cons_succ, List.setIfInBounds_toArray, List.set_cons_zero, List.set_cons_succ]
      refine wpAnyH_take (i := 7) (v := ?_) rfl (by kernel_rfl) (by kernel_rfl) (by kernel_rfl) (fun _ _ _ h => h) (Or.inl ⟨by rfl, fun V hV => ?_⟩) (by assumption) ?_
      rotate_left
      · go_simp
        try with_reducible rfl
      try simp only [Act.put, List.getElem_toArray, List.getElem_cons_zero, List.getElem_cons_succ, List.setIfInBounds_toArray, List.set_cons_zero, List.set_cons_succ]
      refine wpAnyH_take (i := 8) (v := ?_) rfl (by kernel_rfl) (by kernel_rfl) (by kernel_rfl) (fun _ _ _ h => h) (Or.inl ⟨by rfl, fun V hV => ?_⟩) (by assumption) ?_
      rotate_left
      · go_simp
        try with_reducible rfl
      try simp only [Act.put, List.getElem_toArray, List.getElem_cons_zero, List.getElem_cons_succ, List.setIfInBounds_toArray, List.set_cons_zero, List.set_cons_succ]
      refine wpAnyH_done (by kernel_rfl) ?_ _
      have HS := hid hS
      clear hS
      go_wp2_with fail
      refine (awake_any _).mono ?_
      rintro e w9 ⟨rfl, hb9⟩
      go_wp2_with fail
      go_ret
      exact ⟨rfl, HS.out.below.trans (hb9.mono HS.out.below.size)⟩
    · have hlt : k < n := by omega
      have HV1 : Hid (firstV s = k) := by show _ = _; rw [HFV.out, if_neg (by omega)]
      have HE1 : Hid (firstE s = 0) := by show _ = _; rw [HFE.out, if_neg (by omega)]
      have HNO2 := hid (HNO.out hlt)
      rw [HV1.out, HE1.out]
      clear hkn2
      have e11 := (StoAt.of H3.out.cell).c11
      go_wp2_with fail
      (with_reducible refine (in_any _ _ _ _).mono ?_)
      rintro e w4 ⟨rfl, rfl⟩
      have hin : inB (k : Int) 0 ((n : Int) - 1) = true := by rw [inB_iff]; omega
      rw [hin]
      clear hin e11
      obtain ⟨N, hN0, hN1, hN2, hN3, hN4, hN5, hN6⟩ := first_bits (show k ≤ 6 by omega)
      rw [hN5] at HHB
      rw [hN6] at HNO2
      have HNN := hid hN0
      clear hN5 hN6 hN0
      have e0 := (StoAt.of H3.out.cell).c0; have e1 := (StoAt.of H3.out.cell).c1; have e2 := (StoAt.of H3.out.cell).c2; have e3 := (StoAt.of H3.out.cell).c3; have e4 := (StoAt.of H3.out.cell).c4; have e5 := (StoAt.of H3.out.cell).c5; have e6 := (StoAt.of H3.out.cell).c6; have e7 := (StoAt.of H3.out.cell).c7; have e8 := (StoAt.of H3.out.cell).c8; have e9 := (StoAt.of H3.out.cell).c9; have e10 := (StoAt.of H3.out.cell).c10; have e11 := (StoAt.of H3.out.cell).c11
      go_wp2_with fail
      refine (has43_any s p n c ((N : Int) - 1) _ (HC.out.below H3.out.below) HOK.out (by omega) (by omega)).mono ?_
      rintro e w5 ⟨rfl, hb⟩
      rw [HHB.out]
      have H5 := hid (H3.out.step hb)
      clear hb e0 e1 e2 e3 e4 e5 e6 e7 e8 e9 e10 e11
      have e0 := (StoAt.of H5.out.cell).c0; have e1 := (StoAt.of H5.out.cell).c1; have e2 := (StoAt.of H5.out.cell).c2; have e3 := (StoAt.of H5.out.cell).c3; have e4 := (StoAt.of H5.out.cell).c4; have e5 := (StoAt.of H5.out.cell).c5; have e6 := (StoAt.of H5.out.cell).c6; have e7 := (StoAt.of H5.out.cell).c7; have e8 := (StoAt.of H5.out.cell).c8; have e9 := (StoAt.of H5.out.cell).c9; have e10 := (StoAt.of H5.out.cell).c10; have e11 := (StoAt.of H5.out.cell).c11
      go_wp2_with fail
      refine (has43_any s p n c (2 * (N : Int) - 1) _ (HC.out.below H5.out.below) HOK.out (by omega) (by omega)).mono ?_
      rintro e w6 ⟨rfl, hb⟩
      rw [HNO2.out]
      have H6 := hid (H5.out.step hb)
      clear hb e0 e1 e2 e3 e4 e5 e6 e7 e8 e9 e10 e11
      go_wp2_with fail
      refine (awake_any _).mono ?_
      rintro e w9 ⟨rfl, hb9⟩
      go_wp2_with fail
      go_ret
      exact ⟨rfl, H6.out.below.trans (hb9.mono H6.out.below.size)⟩
end Go.Proofs.Ytfnefkenheglhaa
