/- StormClashes: the smallest clash has no truth; without any one of its cards it has one; the smallest set has a card of it; no shorter list clashes. For each storm and each byte. -/
import Derived.Test.YtfnefkenheglhaaPlC
import Derived.Test.YtfnefkenheglhaaLawE
import Derived.Test.YtfnefkenheglhaaLawAwake
namespace Go.Proofs.Ytfnefkenheglhaa
open Go.RowKit

theorem pow_both {m : Nat} (hm : m ≤ 9) : ∃ M : Nat, 2 ^ m = M ∧ 1 ≤ M ∧ M ≤ 512 ∧ wrap64 (2 ^ m) = (M : Int) ∧ IntKind.i64.wrap (2 ^ m) = (M : Int) := by
  have : m = 0 ∨ m = 1 ∨ m = 2 ∨ m = 3 ∨ m = 4 ∨ m = 5 ∨ m = 6 ∨ m = 7 ∨ m = 8 ∨ m = 9 := by omega
  rcases this with rfl | rfl | rfl | rfl | rfl | rfl | rfl | rfl | rfl | rfl <;> exact ⟨_, rfl, by decide, by decide, by decide +kernel, by decide +kernel⟩

set_option maxRecDepth 40000 in
set_option maxHeartbeats 16000000 in
theorem stormClashes_any (s : Sto) (p : Option Addr) (n c : Nat) (tv : Int) (w : World) (hcs : CrdsAt w p n s.cards) (htv : 0 ≤ tv ∧ tv ≤ 255) :
    Calls Try.prog 8 #[.agg #[.int .i64 s.wide, .int .i64 s.high, .int .i64 s.fall, .int .i64 s.a.lo, .int .i64 s.a.hi, .int .i64 s.b.lo, .int .i64 s.b.hi, .int .i64 s.half.lo, .int .i64 s.half.hi, .int .i64 s.peak.lo, .int .i64 s.peak.hi, .slice p n c], .int .u8 tv] w fun e w' => e = .returned (.bool true) ∧ Below w.heap.size w w' := by
  have HC := hid hcs
  have HRD := hid (fun W (hb : Below w.heap.size w W) => ready_any s p n c W (hcs.below hb))
  obtain ⟨T, rfl⟩ : ∃ T : Nat, tv = (T : Int) := ⟨tv.toNat, by omega⟩
  have hT : T ≤ 255 := by omega
  clear hcs htv
  have H0 : Hid (Boxed1 w #[.int .i64 s.wide, .int .i64 s.high, .int .i64 s.fall, .int .i64 s.a.lo, .int .i64 s.a.hi, .int .i64 s.b.lo, .int .i64 s.b.hi, .int .i64 s.half.lo, .int .i64 s.half.hi, .int .i64 s.peak.lo, .int .i64 s.peak.hi, .slice p n c] 26 (w.alloc (.cells #[.int .i64 s.wide, .int .i64 s.high, .int .i64 s.fall, .int .i64 s.a.lo, .int .i64 s.a.hi, .int .i64 s.b.lo, .int .i64 s.b.hi, .int .i64 s.half.lo, .int .i64 s.half.hi, .int .i64 s.peak.lo, .int .i64 s.peak.hi, .slice p n c] 26))) := Boxed1.start _ _ _
  go_enter Try.func8, Try.ntmps8
  go_wp2_with fail
  (with_reducible refine (HRD.out _ ?_).mono ?_)
  · exact H0.out.below
  rintro e w1 ⟨rfl, hb⟩
  have H1 := hid (H0.out.step hb)
  clear hb
  cases hrd : readyB s
  · clear hrd
    go_wp2_with fail
    refine (awake_any _).mono ?_
    rintro e w9 ⟨rfl, hb9⟩
    go_wp2_with fail
    go_ret
    exact ⟨rfl, H1.out.below.trans (hb9.mono H1.out.below.size)⟩
  · have HOK := hid (ready_iff.1 hrd).1
    have hn6 : n ≤ 6 := by have := HC.out.1; have := HOK.out.n6; omega
    clear hrd
    obtain ⟨X, hsh, hincX, _, _⟩ := left_law HOK.out
    have HF0 := hid (fault_iff.2 HOK.out)
    have HSHX := hid hsh
    have HLAW := hid (clash_law HOK.out hsh)
    rw [← HC.out.1] at hincX
    have HINCX := hid hincX
    have hM1 := Nat.two_pow_pos n
    have hM2 : 2 ^ n ≤ 64 := Nat.pow_le_pow_right (n := 2) (by decide) hn6
    have HEV : Hid (everyN n = ((2 ^ n - 1 : Nat) : Int)) := rfl
    obtain ⟨N, hN⟩ : ∃ N, T &&& (2 ^ n - 1) = N := ⟨_, rfl⟩
    have HNL : Hid (N < 2 ^ n) := by show _ < _; rw [← hN]; exact Nat.lt_of_le_of_lt Nat.and_le_right (by have := Nat.two_pow_pos n; omega)
    have HAND : Hid (bits .and .i64 (T : Int) (everyN n) = (N : Int)) := by show _ = _; rw [HEV.out, i64_and_nat T (2 ^ n - 1) (by omega) (by omega), hN]
    have HN12 : Hid (N < 4096) := hid (by have h : N < 2 ^ n := HNL.out; omega)
    clear hsh hincX hN
    have e0 := (StoAt.of H1.out.cell).c0; have e1 := (StoAt.of H1.out.cell).c1; have e2 := (StoAt.of H1.out.cell).c2; have e3 := (StoAt.of H1.out.cell).c3; have e4 := (StoAt.of H1.out.cell).c4; have e5 := (StoAt.of H1.out.cell).c5; have e6 := (StoAt.of H1.out.cell).c6; have e7 := (StoAt.of H1.out.cell).c7; have e8 := (StoAt.of H1.out.cell).c8; have e9 := (StoAt.of H1.out.cell).c9; have e10 := (StoAt.of H1.out.cell).c10; have e11 := (StoAt.of H1.out.cell).c11
    go_wp2_with fail
    refine (storm20_any s p n c w1 (HC.out.below H1.out.below) (by omega)).mono ?_
    rintro e w2 ⟨q2, m2, d2, rfl, hc2, hb⟩
    have H2 := hid (H1.out.step hb)
    have HC2 := hid hc2
    clear hb hc2 e0 e1 e2 e3 e4 e5 e6 e7 e8 e9 e10 e11
    go_wp2_with fail
    refine (clashP_any s q2 m2 d2 w2 HC2.out).mono ?_
    rintro e w3 ⟨q, k, d, rfl, _, hx, hb⟩
    have H3 := hid (H2.out.step hb)
    have HXC := hid (hx HF0.out)
    clear hb hx
    have e0 := (StoAt.of H3.out.cell).c0; have e1 := (StoAt.of H3.out.cell).c1; have e2 := (StoAt.of H3.out.cell).c2; have e3 := (StoAt.of H3.out.cell).c3; have e4 := (StoAt.of H3.out.cell).c4; have e5 := (StoAt.of H3.out.cell).c5; have e6 := (StoAt.of H3.out.cell).c6; have e7 := (StoAt.of H3.out.cell).c7; have e8 := (StoAt.of H3.out.cell).c8; have e9 := (StoAt.of H3.out.cell).c9; have e10 := (StoAt.of H3.out.cell).c10; have e11 := (StoAt.of H3.out.cell).c11
    go_wp2_with fail
    refine (storm20_any s p n c w3 (HC.out.below H3.out.below) (by omega)).mono ?_
    rintro e w4 ⟨q4, m4, d4, rfl, hc4, hb⟩
    have H4 := hid (H3.out.step hb)
    have HB4 := hid hb
    have HC4 := hid hc4
    clear e0 e1 e2 e3 e4 e5 e6 e7 e8 e9 e10 e11 hb hc4
    go_wp2_with fail
    refine (leave_any s q4 m4 d4 w4 HC4.out).mono ?_
    rintro e w5 ⟨q5, k5, d5, rfl, _, hx5, hb⟩
    have H5 := hid (H4.out.step hb)
    have hlX := hx5 HF0.out X HSHX.out
    have HX5 := hid hlX
    have HB5 := hid (HB4.out.trans (hb.mono HB4.out.size))
    rw [HF0.out]
    clear hb hx5 hlX
    rcases HLAW.out with ⟨hnone, hX0⟩ | ⟨C, hsome, hincC, hand0, hno, hone, hshort⟩
    · have HCE : Hid (clashE s = 7) := by show _ = _; rw [clashE, if_pos HF0.out, hnone]; rfl
      have hk5 : k5 = 0 := by rw [HX5.out.1, hX0]; rfl
      rw [HCE.out, hk5]
      clear hnone hX0 hk5
      go_wp2_with fail
      refine (awake_any _).mono ?_
      rintro e w9 ⟨rfl, hb9⟩
      go_wp2_with fail
      go_ret
      exact ⟨rfl, H5.out.below.trans (hb9.mono H5.out.below.size)⟩
    · have HCE : Hid (clashE s = 0) := by show _ = _; rw [clashE, if_pos HF0.out, hsome]; rfl
      rw [HCE.out]
      have hlC := HXC.out C hsome
      have HC5 := hid (hlC.below HB5.out)
      have HKC := hid hlC.1
      have HKX := hid HX5.out.1
      rw [← HC.out.1] at hincC hshort
      have HINCC := hid hincC
      have hk6 : k ≤ 6 := by
        rw [HKC.out]
        by_cases h0 : C = []
        · rw [h0]; simp
        · have := incr_room n C 0 HINCC.out h0; omega
      rw [← HKC.out] at hand0 hno hone
      rw [← HKX.out] at hand0
      have HNO := hid hno; have HONE := hid hone
      have hand1 : bits .and .i64 ((setOf C k : Nat) : Int) ((setOf X k5 : Nat) : Int) = ((setOf C k &&& setOf X k5 : Nat) : Int) := i64_and_nat _ _ (setOf_lt _ _) (setOf_lt _ _)
      obtain ⟨Z, hZ⟩ : ∃ Z, setOf C k &&& setOf X k5 = Z := ⟨_, rfl⟩
      rw [hZ] at hand0 hand1
      have hZ1 : ((Z : Int) == 0) = false := by simp; omega
      have hZ2 : ¬ Z = 0 := hand0
      have hZ3 : ¬ (Z : Int) = 0 := by omega
      clear hsome hlC hincC hno hone hand0 hZ
      have HAND1 := hid hand1; have HZ1 := hid hZ1; have HZ3 := hid hZ3
      clear hand1 hZ1 hZ2 hZ3
      have e11 := (StoAt.of H5.out.cell).c11
      go_wp2_with fail
      refine (bitsOf_any q k d C n w5 HC5.out HINCC.out (by omega)).mono ?_
      rintro e w6 ⟨rfl, hb⟩
      rw [← HKC.out]
      have H6 := hid (H5.out.step hb); have HX6 := hid (HX5.out.below hb); have HC6 := hid (HC5.out.below hb)
      clear hb e11
      have e11 := (StoAt.of H6.out.cell).c11
      go_wp2_with fail
      refine (bitsOf_any q5 k5 d5 X n w6 HX6.out HINCX.out (by omega)).mono ?_
      rintro e w7 ⟨rfl, hb⟩
      rw [← HKX.out]
      have H7 := hid (H6.out.step hb); have HC7 := hid (HC6.out.below hb)
      clear hb e11
      have hand1 := HAND1.out; have hZ1 := HZ1.out; have hZ3 := HZ3.out
      have e0 := (StoAt.of H7.out.cell).c0; have e1 := (StoAt.of H7.out.cell).c1; have e2 := (StoAt.of H7.out.cell).c2; have e3 := (StoAt.of H7.out.cell).c3; have e4 := (StoAt.of H7.out.cell).c4; have e5 := (StoAt.of H7.out.cell).c5; have e6 := (StoAt.of H7.out.cell).c6; have e7 := (StoAt.of H7.out.cell).c7; have e8 := (StoAt.of H7.out.cell).c8; have e9 := (StoAt.of H7.out.cell).c9; have e10 := (StoAt.of H7.out.cell).c10; have e11 := (StoAt.of H7.out.cell).c11
      go_wp2_with fail
      refine (has43_any s p n c ((setOf C k : Nat) : Int) w7 (HC.out.below H7.out.below) HOK.out (by omega) (by have := setOf_lt C k; omega)).mono ?_
      rintro e w8 ⟨rfl, hb⟩
      rw [HNO.out]
      have H8 := hid (H7.out.step hb); have HC8 := hid (HC7.out.below hb)
      clear hb hand1 hZ1 hZ3 e0 e1 e2 e3 e4 e5 e6 e7 e8 e9 e10 e11
      go_wp2_with fail
      go_loopw [15] (fun i wr => ∃ j : Nat, j ≤ k ∧ i = .int .i64 j ∧ Boxed1 w #[.int .i64 s.wide, .int .i64 s.high, .int .i64 s.fall, .int .i64 s.a.lo, .int .i64 s.a.hi, .int .i64 s.b.lo, .int .i64 s.b.hi, .int .i64 s.half.lo, .int .i64 s.half.hi, .int .i64 s.peak.lo, .int .i64 s.peak.hi, .slice p n c] 26 wr ∧ IntsAt wr q k C) (fun i _ => k - (intOf i).toNat)
      case atStart => exact ⟨0, by omega, rfl, H8.out, HC8.out⟩
      case round =>
        obtain ⟨i, hi, rfl, hbr, hcr⟩ := hrel
        have HBr := hid hbr; have HCr := hid hcr
        by_cases hlt : i < k
        · have hxl : i < C.length := by have := HKC.out; omega
          have hXk : C[i]? = some C[i] := List.getElem?_eq_getElem hxl
          have hmem := incr_mem HINCC.out _ (List.getElem_mem hxl)
          have hmm : C[i] ∈ C := List.getElem_mem hxl
          obtain ⟨j, hj⟩ : ∃ j : Nat, C[i] = (j : Int) := ⟨C[i].toNat, by omega⟩
          rw [hj] at hXk hmem hmm
          have hj6 : j < 6 := by omega
          obtain ⟨b1, o1, rfl, _, hc⟩ := hcr.at hlt
          rw [hXk] at hc
          have HCV : Hid (∀ V, Below wr.heap.size wr V → V.cell? ⟨b1, o1 + i, none⟩ = some (.int .i64 (j : Int))) := fun V hV => (hV.cell (World.block_lt_of_cell? _ _ hc)).trans hc
          have HHJ := hid (HONE.out j hmm)
          obtain ⟨P2, hP0, hP1, hP2, hP3, hP4⟩ := pow_both (show j ≤ 9 by omega)
          rw [hP0] at HHJ
          have HSH : Hid (IntKind.u64.wrap (j : Int) = (j : Int) ∧ wrap64 (2 ^ j) = (P2 : Int) ∧ IntKind.i64.wrap (2 ^ j) = (P2 : Int)) := ⟨by rw [IntKind.wrap_u64]; omega, hP3, hP4⟩
          have HAN : Hid (bits .andNot .i64 ((setOf C k : Nat) : Int) (P2 : Int) = ((andN (setOf C k) P2 : Nat) : Int)) := i64_andnot_nat _ _ (setOf_lt _ _)
          clear hxl hXk hmem hmm hj hc hbr hcr hP0 hP1 hP2 hP3 hP4
          go_upto_region 19 with fail
          refine wp_region_held_drew (S := fun V => Boxed1 w #[.int .i64 s.wide, .int .i64 s.high, .int .i64 s.fall, .int .i64 s.a.lo, .int .i64 s.a.hi, .int .i64 s.b.lo, .int .i64 s.b.hi, .int .i64 s.half.lo, .int .i64 s.half.hi, .int .i64 s.peak.lo, .int .i64 s.peak.hi, .slice p n c] 26 V ∧ Below wr.heap.size wr V) (by kernel_rfl) (⟨HBr.out.drew, (Below.refl _ _).drew⟩) (fun hS => ?_)
          simp only [List.size_toArray, List.length_cons, List.length_nil, Nat.reduceAdd, Array.replicate_succ, Array.replicate_zero, List.push_toArray, List.nil_append, List.cons_append]
          refine wpAnyH_take (i := 0) (v := ?_) rfl (by kernel_rfl) (by kernel_rfl) (by kernel_rfl) (fun _ _ _ h => h) (Or.inl ⟨by rfl, fun V hV => ?_⟩) (by assumption) ?_
          rotate_left
          · have e0 := (StoAt.of hV.1.cell).c0; have e1 := (StoAt.of hV.1.cell).c1; have e2 := (StoAt.of hV.1.cell).c2; have e3 := (StoAt.of hV.1.cell).c3; have e4 := (StoAt.of hV.1.cell).c4; have e5 := (StoAt.of hV.1.cell).c5; have e6 := (StoAt.of hV.1.cell).c6; have e7 := (StoAt.of hV.1.cell).c7; have e8 := (StoAt.of hV.1.cell).c8; have e9 := (StoAt.of hV.1.cell).c9; have e10 := (StoAt.of hV.1.cell).c10; have e11 := (StoAt.of hV.1.cell).c11; go_simp
            try with_reducible rfl
          try simp only [Act.put, List.getElem_toArray, List.getElem_cons_zero, List.setIfInBounds_toArray, List.set_cons_zero, List.set_cons_succ]
          refine wpAnyH_take (i := 1) (v := ?_) rfl (by kernel_rfl) (by kernel_rfl) (by kernel_rfl) (fun _ _ _ h => h) (Or.inl ⟨by rfl, fun V hV => ?_⟩) (by assumption) ?_
          rotate_left
          · go_simp
            try with_reducible rfl
          try simp only [Act.put, List.getElem_toArray, List.getElem_cons_zero, List.getElem_cons_succ, List.setIfInBounds_toArray, List.set_cons_zero, List.set_cons_succ]
          refine wpAnyH_take (i := 2) (v := ?_) rfl (by kernel_rfl) (by kernel_rfl) (by kernel_rfl) (fun _ _ _ h => h) (Or.inl ⟨by rfl, fun V hV => ?_⟩) (by assumption) ?_
          rotate_left
          · go_simp
            try with_reducible rfl
          try simp only [Act.put, List.getElem_toArray, List.getElem_cons_zero, List.getElem_cons_succ, List.setIfInBounds_toArray, List.set_cons_zero, List.set_cons_succ]
          refine wpAnyH_take (i := 3) (v := ?_) rfl (by kernel_rfl) (by kernel_rfl) (by kernel_rfl) (fun _ _ _ h => h) (Or.inl ⟨by rfl, fun V hV => ?_⟩) (by assumption) ?_
          rotate_left
          · go_simp
            try with_reducible rfl
          try simp only [Act.put, List.getElem_toArray, List.getElem_cons_zero, List.getElem_cons_succ, List.setIfInBounds_toArray, List.set_cons_zero, List.set_cons_succ]
          refine wpAnyH_take (i := 4) (v := ?_) rfl (by kernel_rfl) (by kernel_rfl) (by kernel_rfl) (fun _ _ _ h => h) (Or.inl ⟨by rfl, fun V hV => ?_⟩) (by assumption) ?_
          rotate_left
          · go_simp
            try with_reducible rfl
          try simp only [Act.put, List.getElem_toArray, List.getElem_cons_zero, List.getElem_cons_succ, List.setIfInBounds_toArray, List.set_cons_zero, List.set_cons_succ]
          refine wpAnyH_take (i := 5) (v := ?_) rfl (by kernel_rfl) (by kernel_rfl) (by kernel_rfl) (fun _ _ _ h => h) (Or.inl ⟨by rfl, fun V hV => ?_⟩) (by assumption) ?_
          rotate_left
          · have hc := HCV.out V hV.2; go_simp
            try with_reducible rfl
          try simp only [Act.put, List.getElem_toArray, List.getElem_cons_zero, List.getElem_cons_succ, List.setIfInBounds_toArray, List.set_cons_zero, List.set_cons_succ]
          refine wpAnyH_take (i := 6) (v := ?_) rfl (by kernel_rfl) (by kernel_rfl) (by kernel_rfl) (fun _ _ _ h => h) (Or.inl ⟨by rfl, fun V hV => ?_⟩) (by assumption) ?_
          rotate_left
          · have ⟨a1, a2, a3⟩ := HSH.out; go_simp
            try with_reducible rfl
          try simp only [Act.put, List.getElem_toArray, List.getElem_cons_zero, List.getElem_cons_succ, List.setIfInBounds_toArray, List.set_cons_zero, List.set_cons_succ]
          refine wpAnyH_take (i := 7) (v := ?_) rfl (by kernel_rfl) (by kernel_rfl) (by kernel_rfl) (fun _ _ _ h => h) (Or.inl ⟨by rfl, fun V hV => ?_⟩) (by assumption) ?_
          rotate_left
          · have ⟨a1, a2, a3⟩ := HSH.out; go_simp
            try with_reducible rfl
          try simp only [Act.put, List.getElem_toArray, List.getElem_cons_zero, List.getElem_cons_succ, List.setIfInBounds_toArray, List.set_cons_zero, List.set_cons_succ]
          refine wpAnyH_take (i := 8) (v := ?_) rfl (by kernel_rfl) (by kernel_rfl) (by kernel_rfl) (fun _ _ _ h => h) (Or.inl ⟨by rfl, fun V hV => ?_⟩) (by assumption) ?_
          rotate_left
          · have q1 := HAN.out; have ⟨a1, a2, a3⟩ := HSH.out; go_simp
            try with_reducible rfl
          try simp only [Act.put, List.getElem_toArray, List.getElem_cons_zero, List.getElem_cons_succ, List.setIfInBounds_toArray, List.set_cons_zero, List.set_cons_succ]
          refine wpAnyH_ready (rs := [9]) (by kernel_rfl) (by simp) ?_
          refine AllReadyH.cons (o := _) rfl (fun K hK => ?_) AllReadyH.nil
          go_simp
          refine (has43_any s p n c ((andN (setOf C k) P2 : Nat) : Int) _ (HC.out.below hS.1.below) HOK.out (by omega) (by have := andN_lt (setOf C k) P2; omega)).mono ?_
          rintro e s9 ⟨rfl, hb9⟩
          rw [HHJ.out]
          refine hK.out _ _ (⟨hS.1.step hb9, hS.2.trans (hb9.mono hS.2.size)⟩) (fun hS => ?_)
          clear hK K
          try simp only [List.setIfInBounds_toArray, List.set_cons_zero, List.set_cons_succ]
          refine wpAnyH_take (i := 10) (v := ?_) rfl (by kernel_rfl) (by kernel_rfl) (by kernel_rfl) (fun _ _ _ h => h) (Or.inl ⟨by rfl, fun V hV => ?_⟩) (by assumption) ?_
          rotate_left
          · go_simp
            try with_reducible rfl
          try simp only [Act.put, List.getElem_toArray, List.getElem_cons_zero, List.getElem_cons_succ, List.setIfInBounds_toArray, List.set_cons_zero, List.set_cons_succ]
          refine wpAnyH_take (i := 11) (v := ?_) rfl (by kernel_rfl) (by kernel_rfl) (by kernel_rfl) (fun _ _ _ h => h) (Or.inl ⟨by rfl, fun V hV => ?_⟩) (by assumption) ?_
          rotate_left
          · go_simp
            try with_reducible rfl
          try simp only [Act.put, List.getElem_toArray, List.getElem_cons_zero, List.getElem_cons_succ, List.setIfInBounds_toArray, List.set_cons_zero, List.set_cons_succ]
          refine wpAnyH_take (i := 12) (v := ?_) rfl (by kernel_rfl) (by kernel_rfl) (by kernel_rfl) (fun _ _ _ h => h) (Or.inl ⟨by rfl, fun V hV => ?_⟩) (by assumption) ?_
          rotate_left
          · go_simp
            try with_reducible rfl
          try simp only [Act.put, List.getElem_toArray, List.getElem_cons_zero, List.getElem_cons_succ, List.setIfInBounds_toArray, List.set_cons_zero, List.set_cons_succ]
          refine wpAnyH_take (i := 13) (v := ?_) rfl (by kernel_rfl) (by kernel_rfl) (by kernel_rfl) (fun _ _ _ h => h) (Or.inl ⟨by rfl, fun V hV => ?_⟩) (by assumption) ?_
          rotate_left
          · go_simp
            try with_reducible rfl
          try simp only [Act.put, List.getElem_toArray, List.getElem_cons_zero, List.getElem_cons_succ, List.setIfInBounds_toArray, List.set_cons_zero, List.set_cons_succ]
          refine wpAnyH_take (i := 14) (v := ?_) rfl (by kernel_rfl) (by kernel_rfl) (by kernel_rfl) (fun _ _ _ h => h) (Or.inl ⟨by rfl, fun V hV => ?_⟩) (by assumption) ?_
          rotate_left
          · go_simp
            try with_reducible rfl
          try simp only [Act.put, List.getElem_toArray, List.getElem_cons_zero, List.getElem_cons_succ, List.setIfInBounds_toArray, List.set_cons_zero, List.set_cons_succ]
          refine wpAnyH_done (by kernel_rfl) ?_ _
          have HS9 := hid hS.1; have HD9 := hid hS.2
          clear hS
          go_wp2_with fail
          go_roundw
          case rel => exact ⟨i + 1, by omega, by go_num, HS9.out, HCr.out.below HD9.out⟩
          case measure => simp [intOf]; omega
        · have H9a := hid hbr; have HC9a := hid hcr
          clear hbr hcr
          have e0 := (StoAt.of H9a.out.cell).c0; have e1 := (StoAt.of H9a.out.cell).c1; have e2 := (StoAt.of H9a.out.cell).c2; have e3 := (StoAt.of H9a.out.cell).c3; have e4 := (StoAt.of H9a.out.cell).c4; have e5 := (StoAt.of H9a.out.cell).c5; have e6 := (StoAt.of H9a.out.cell).c6; have e7 := (StoAt.of H9a.out.cell).c7; have e8 := (StoAt.of H9a.out.cell).c8; have e9 := (StoAt.of H9a.out.cell).c9; have e10 := (StoAt.of H9a.out.cell).c10; have e11 := (StoAt.of H9a.out.cell).c11
          go_wp2_with fail
          (with_reducible refine (every_any s p n c _ (by omega)).mono ?_)
          rintro e s1 ⟨rfl, hb⟩
          have H9b := hid (H9a.out.step hb); have HC9b := hid (HC9a.out.below hb)
          clear hb e0 e1 e2 e3 e4 e5 e6 e7 e8 e9 e10 e11
          have hand := HAND.out
          have hcv : IntKind.i64.wrap (T : Int) = (T : Int) := IntWalk.i64_in _ (by omega)
          have e0 := (StoAt.of H9b.out.cell).c0; have e1 := (StoAt.of H9b.out.cell).c1; have e2 := (StoAt.of H9b.out.cell).c2; have e3 := (StoAt.of H9b.out.cell).c3; have e4 := (StoAt.of H9b.out.cell).c4; have e5 := (StoAt.of H9b.out.cell).c5; have e6 := (StoAt.of H9b.out.cell).c6; have e7 := (StoAt.of H9b.out.cell).c7; have e8 := (StoAt.of H9b.out.cell).c8; have e9 := (StoAt.of H9b.out.cell).c9; have e10 := (StoAt.of H9b.out.cell).c10; have e11 := (StoAt.of H9b.out.cell).c11
          go_wp2_with fail
          refine (has43_any s p n c (N : Int) _ (HC.out.below H9b.out.below) HOK.out (by omega) (by have := HN12.out; omega)).mono ?_
          rintro e s2 ⟨rfl, hb⟩
          have H9 := hid (H9b.out.step hb); have HC9 := hid (HC9b.out.below hb)
          clear hb hand hcv e0 e1 e2 e3 e4 e5 e6 e7 e8 e9 e10 e11
          cases hh : hasT s (N : Int)
          · have HSHN := hid (hshort N HNL.out hh)
            clear hh hshort
            go_wp2_with fail
            refine (bits_any _ _ (by omega) (by have := HN12.out; omega)).mono ?_
            rintro e s4 ⟨v, rfl, hown, hb4⟩
            obtain ⟨q8, d8, rfl, hl8⟩ := hown.slice
            have HS4 := hid (H9.out.step hb4); have HX4 := hid (HC9.out.below hb4); have HL8 := hid hl8
            clear hb4 hown hl8
            go_wp2_with fail
            refine (shorter_any q8 _ d8 (bitsL (N : Int)) q k d C _ HL8.out HX4.out (by have := bitsTo_len (N : Int) 12; show (bitsTo _ 12).length ≤ _; omega) (by omega)).mono ?_
            rintro e s5 ⟨rfl, nn, rfl⟩
            rw [HSHN.out]
            have HS5 := hid (HS4.out.drewN nn)
            clear HL8
            go_wp2_with fail
            refine (awake_any _).mono ?_
            rintro e w9 ⟨rfl, hb9⟩
            go_wp2_with fail
            go_ret
            exact ⟨rfl, HS5.out.below.trans (hb9.mono HS5.out.below.size)⟩
          · clear hh hshort
            go_wp2_with fail
            refine (awake_any _).mono ?_
            rintro e w9 ⟨rfl, hb9⟩
            go_wp2_with fail
            go_ret
            exact ⟨rfl, H9.out.below.trans (hb9.mono H9.out.below.size)⟩
end Go.Proofs.Ytfnefkenheglhaa
