/- StormLeft: without the smallest set there is a truth; without any shorter list, or one that is as long and before it, there is none. For each storm and each byte. -/
import Derived.Test.YtfnefkenheglhaaPlL
import Derived.Test.YtfnefkenheglhaaLawE
import Derived.Test.YtfnefkenheglhaaLawAwake
namespace Go.Proofs.Ytfnefkenheglhaa
open Go.RowKit

set_option maxRecDepth 40000 in
set_option maxHeartbeats 16000000 in
theorem stormLeft_any (s : Sto) (p : Option Addr) (n c : Nat) (tv : Int) (w : World) (hcs : CrdsAt w p n s.cards) (htv : 0 ≤ tv ∧ tv ≤ 255) :
    Calls Try.prog 9 #[.agg #[.int .i64 s.wide, .int .i64 s.high, .int .i64 s.fall, .int .i64 s.a.lo, .int .i64 s.a.hi, .int .i64 s.b.lo, .int .i64 s.b.hi, .int .i64 s.half.lo, .int .i64 s.half.hi, .int .i64 s.peak.lo, .int .i64 s.peak.hi, .slice p n c], .int .u8 tv] w fun e w' => e = .returned (.bool true) ∧ Below w.heap.size w w' := by
  have HC := hid hcs
  have HRD := hid (fun W (hb : Below w.heap.size w W) => ready_any s p n c W (hcs.below hb))
  obtain ⟨T, rfl⟩ : ∃ T : Nat, tv = (T : Int) := ⟨tv.toNat, by omega⟩
  have hT : T ≤ 255 := by omega
  clear hcs htv
  have H0 : Hid (Boxed1 w #[.int .i64 s.wide, .int .i64 s.high, .int .i64 s.fall, .int .i64 s.a.lo, .int .i64 s.a.hi, .int .i64 s.b.lo, .int .i64 s.b.hi, .int .i64 s.half.lo, .int .i64 s.half.hi, .int .i64 s.peak.lo, .int .i64 s.peak.hi, .slice p n c] 26 (w.alloc (.cells #[.int .i64 s.wide, .int .i64 s.high, .int .i64 s.fall, .int .i64 s.a.lo, .int .i64 s.a.hi, .int .i64 s.b.lo, .int .i64 s.b.hi, .int .i64 s.half.lo, .int .i64 s.half.hi, .int .i64 s.peak.lo, .int .i64 s.peak.hi, .slice p n c] 26))) := Boxed1.start _ _ _
  go_enter Try.func9, Try.ntmps9
  go_wp2_with fail
  (with_reducible refine (HRD.out _ ?_).mono ?_)
  · exact H0.out.below
  rintro e w1 ⟨rfl, hb⟩
  have H1 := hid (H0.out.step hb)
  clear hb
  cases hrd : readyB s
  · clear hrd
    go_wp2_with fail
    refine (awake_any _).mono ?_
    rintro e w9 ⟨rfl, hb9⟩
    go_wp2_with fail
    go_ret
    exact ⟨rfl, H1.out.below.trans (hb9.mono H1.out.below.size)⟩
  · have HOK := hid (ready_iff.1 hrd).1
    have hn6 : n ≤ 6 := by have := HC.out.1; have := HOK.out.n6; omega
    clear hrd
    obtain ⟨X, hsh, hinc, hlv, hno⟩ := left_law HOK.out
    have HF0 := hid (fault_iff.2 HOK.out)
    have HSHX := hid hsh
    rw [← HC.out.1] at hinc hlv hno
    have HINC := hid hinc
    have hM1 := Nat.two_pow_pos n
    have hM2 : 2 ^ n ≤ 64 := Nat.pow_le_pow_right (n := 2) (by decide) hn6
    have HEV : Hid (everyN n = ((2 ^ n - 1 : Nat) : Int)) := rfl
    have HE64 : Hid (2 ^ n - 1 < 64) := hid (by omega)
    obtain ⟨N, hN⟩ : ∃ N, T &&& (2 ^ n - 1) = N := ⟨_, rfl⟩
    have HNL : Hid (N < 2 ^ n) := by show _ < _; rw [← hN]; exact Nat.lt_of_le_of_lt Nat.and_le_right (by have := Nat.two_pow_pos n; omega)
    have HAND : Hid (bits .and .i64 (T : Int) (everyN n) = (N : Int)) := by show _ = _; rw [HEV.out, i64_and_nat T (2 ^ n - 1) (by omega) (by omega), hN]
    have HN12 : Hid (N < 4096) := hid (by have h : N < 2 ^ n := HNL.out; omega)
    have HNO := hid (hno N HNL.out)
    clear hsh hinc hno hN
    have e0 := (StoAt.of H1.out.cell).c0; have e1 := (StoAt.of H1.out.cell).c1; have e2 := (StoAt.of H1.out.cell).c2; have e3 := (StoAt.of H1.out.cell).c3; have e4 := (StoAt.of H1.out.cell).c4; have e5 := (StoAt.of H1.out.cell).c5; have e6 := (StoAt.of H1.out.cell).c6; have e7 := (StoAt.of H1.out.cell).c7; have e8 := (StoAt.of H1.out.cell).c8; have e9 := (StoAt.of H1.out.cell).c9; have e10 := (StoAt.of H1.out.cell).c10; have e11 := (StoAt.of H1.out.cell).c11
    go_wp2_with fail
    refine (storm20_any s p n c w1 (HC.out.below H1.out.below) (by omega)).mono ?_
    rintro e w2 ⟨q2, m2, d2, rfl, hc2, hb⟩
    have H2 := hid (H1.out.step hb)
    have HC2 := hid hc2
    clear hb hc2 e0 e1 e2 e3 e4 e5 e6 e7 e8 e9 e10 e11
    go_wp2_with fail
    refine (leave_any s q2 m2 d2 w2 HC2.out).mono ?_
    rintro e w3 ⟨q, k, d, rfl, _, hx, hb⟩
    have H3 := hid (H2.out.step hb)
    have hlX := hx HF0.out X HSHX.out
    have HX3 := hid hlX
    obtain ⟨hkX, _⟩ := hlX
    have hk6 : k ≤ 6 := by
      rw [hkX]
      by_cases h0 : X = []
      · rw [h0]; simp
      · have := incr_room n X 0 HINC.out h0; omega
    rw [← hkX] at hlv
    have HLE := hid hlv
    have HKX := hid hkX
    rw [HF0.out]
    clear hb hx hlv hkX
    have e11 := (StoAt.of H3.out.cell).c11
    go_wp2_with fail
    refine (bitsOf_any q k d X n w3 HX3.out HINC.out (by omega)).mono ?_
    rintro e w4 ⟨rfl, hb⟩
    rw [← HKX.out]
    have H4 := hid (H3.out.step hb)
    have HX4 := hid (HX3.out.below hb)
    clear hb e11
    have e0 := (StoAt.of H4.out.cell).c0; have e1 := (StoAt.of H4.out.cell).c1; have e2 := (StoAt.of H4.out.cell).c2; have e3 := (StoAt.of H4.out.cell).c3; have e4 := (StoAt.of H4.out.cell).c4; have e5 := (StoAt.of H4.out.cell).c5; have e6 := (StoAt.of H4.out.cell).c6; have e7 := (StoAt.of H4.out.cell).c7; have e8 := (StoAt.of H4.out.cell).c8; have e9 := (StoAt.of H4.out.cell).c9; have e10 := (StoAt.of H4.out.cell).c10; have e11 := (StoAt.of H4.out.cell).c11
    go_wp2_with fail
    (with_reducible refine (every_any s p n c _ (by omega)).mono ?_)
    rintro e w5 ⟨rfl, hb⟩
    have HU8 := hid (H4.out.step hb)
    have HX5 := hid (HX4.out.below hb)
    have hand := HAND.out
    have hcv : IntKind.i64.wrap (T : Int) = (T : Int) := IntWalk.i64_in _ (by omega)
    clear hb e0 e1 e2 e3 e4 e5 e6 e7 e8 e9 e10 e11
    have HAN8 : Hid (bits .andNot .i64 (everyN n) ((setOf X k : Nat) : Int) = ((andN (2 ^ n - 1) (setOf X k) : Nat) : Int)) := by show _ = _; rw [HEV.out]; exact i64_andnot_nat _ _ (by have := HE64.out; omega)
    have HAN9 : Hid (bits .andNot .i64 (everyN n) (N : Int) = ((andN (2 ^ n - 1) N : Nat) : Int)) := by show _ = _; rw [HEV.out]; exact i64_andnot_nat _ _ (by have := HE64.out; omega)
    go_upto_region 8 with fail
    generalize w5 = U8 at HU8 HX5 ⊢
    refine wp_region_held_drew (S := fun V => Boxed1 w #[.int .i64 s.wide, .int .i64 s.high, .int .i64 s.fall, .int .i64 s.a.lo, .int .i64 s.a.hi, .int .i64 s.b.lo, .int .i64 s.b.hi, .int .i64 s.half.lo, .int .i64 s.half.hi, .int .i64 s.peak.lo, .int .i64 s.peak.hi, .slice p n c] 26 V ∧ Below U8.heap.size U8 V) (by kernel_rfl) (⟨HU8.out.drew, (Below.refl _ _).drew⟩) (fun hS => ?_)
    simp only [List.size_toArray, List.length_cons, List.length_nil, Nat.reduceAdd, Array.replicate_succ, Array.replicate_zero, List.push_toArray, List.nil_append, List.cons_append]
    refine wpAnyH_take (i := 0) (v := ?_) rfl (by kernel_rfl) (by kernel_rfl) (by kernel_rfl) (fun _ _ _ h => h) (Or.inl ⟨by rfl, fun V hV => ?_⟩) (by assumption) ?_
    rotate_left
    · have e0 := (StoAt.of hV.1.cell).c0; have e1 := (StoAt.of hV.1.cell).c1; have e2 := (StoAt.of hV.1.cell).c2; have e3 := (StoAt.of hV.1.cell).c3; have e4 := (StoAt.of hV.1.cell).c4; have e5 := (StoAt.of hV.1.cell).c5; have e6 := (StoAt.of hV.1.cell).c6; have e7 := (StoAt.of hV.1.cell).c7; have e8 := (StoAt.of hV.1.cell).c8; have e9 := (StoAt.of hV.1.cell).c9; have e10 := (StoAt.of hV.1.cell).c10; have e11 := (StoAt.of hV.1.cell).c11; go_simp
      try with_reducible rfl
    try simp only [Act.put, List.getElem_toArray, List.getElem_cons_zero, List.setIfInBounds_toArray, List.set_cons_zero, List.set_cons_succ]
    refine wpAnyH_take (i := 1) (v := ?_) rfl (by kernel_rfl) (by kernel_rfl) (by kernel_rfl) (fun _ _ _ h => h) (Or.inl ⟨by rfl, fun V hV => ?_⟩) (by assumption) ?_
    rotate_left
    · have e0 := (StoAt.of hV.1.cell).c0; have e1 := (StoAt.of hV.1.cell).c1; have e2 := (StoAt.of hV.1.cell).c2; have e3 := (StoAt.of hV.1.cell).c3; have e4 := (StoAt.of hV.1.cell).c4; have e5 := (StoAt.of hV.1.cell).c5; have e6 := (StoAt.of hV.1.cell).c6; have e7 := (StoAt.of hV.1.cell).c7; have e8 := (StoAt.of hV.1.cell).c8; have e9 := (StoAt.of hV.1.cell).c9; have e10 := (StoAt.of hV.1.cell).c10; have e11 := (StoAt.of hV.1.cell).c11; go_simp
      try with_reducible rfl
    try simp only [Act.put, List.getElem_toArray, List.getElem_cons_zero, List.getElem_cons_succ, List.setIfInBounds_toArray, List.set_cons_zero, List.set_cons_succ]
    refine wpAnyH_take (i := 3) (v := ?_) rfl (by kernel_rfl) (by kernel_rfl) (by kernel_rfl) (fun _ _ _ h => h) (Or.inl ⟨by rfl, fun V hV => ?_⟩) (by assumption) ?_
    rotate_left
    · go_simp
      try with_reducible rfl
    try simp only [Act.put, List.getElem_toArray, List.getElem_cons_zero, List.getElem_cons_succ, List.setIfInBounds_toArray, List.set_cons_zero, List.set_cons_succ]
    refine wpAnyH_ready (rs := [2]) (by kernel_rfl) (by simp) ?_
    refine AllReadyH.cons (o := _) rfl (fun K hK => ?_) AllReadyH.nil
    go_simp
    (with_reducible refine (every_any s p n c _ (by omega)).mono ?_)
    rintro e s2 ⟨rfl, hb2⟩
    refine hK.out _ _ (⟨hS.1.step hb2, hS.2.trans (hb2.mono hS.2.size)⟩) (fun hS => ?_)
    clear hK K
    try simp only [List.setIfInBounds_toArray, List.set_cons_zero, List.set_cons_succ]
    refine wpAnyH_take (i := 4) (v := ?_) rfl (by kernel_rfl) (by kernel_rfl) (by kernel_rfl) (fun _ _ _ h => h) (Or.inl ⟨by rfl, fun V hV => ?_⟩) (by assumption) ?_
    rotate_left
    · have q1 := HAN8.out; go_simp
      try with_reducible rfl
    try simp only [Act.put, List.getElem_toArray, List.getElem_cons_zero, List.getElem_cons_succ, List.setIfInBounds_toArray, List.set_cons_zero, List.set_cons_succ]
    refine wpAnyH_ready (rs := [5]) (by kernel_rfl) (by simp) ?_
    refine AllReadyH.cons (o := _) rfl (fun K hK => ?_) AllReadyH.nil
    go_simp
    refine (has43_any s p n c ((andN (2 ^ n - 1) (setOf X k) : Nat) : Int) _ (HC.out.below hS.1.below) HOK.out (by omega) (by have := andN_lt (2 ^ n - 1) (setOf X k); omega)).mono ?_
    rintro e s3 ⟨rfl, hb3⟩
    rw [HLE.out]
    refine hK.out _ _ (⟨hS.1.step hb3, hS.2.trans (hb3.mono hS.2.size)⟩) (fun hS => ?_)
    clear hK K
    try simp only [List.setIfInBounds_toArray, List.set_cons_zero, List.set_cons_succ]
    refine wpAnyH_take (i := 6) (v := ?_) rfl (by kernel_rfl) (by kernel_rfl) (by kernel_rfl) (fun _ _ _ h => h) (Or.inl ⟨by rfl, fun V hV => ?_⟩) (by assumption) ?_
    rotate_left
    · go_simp
      try with_reducible rfl
    try simp only [Act.put, List.getElem_toArray, List.getElem_cons_zero, List.getElem_cons_succ, List.setIfInBounds_toArray, List.set_cons_zero, List.set_cons_succ]
    refine wpAnyH_take (i := 7) (v := ?_) rfl (by kernel_rfl) (by kernel_rfl) (by kernel_rfl) (fun _ _ _ h => h) (Or.inl ⟨by rfl, fun V hV => ?_⟩) (by assumption) ?_
    rotate_left
    · go_simp
      try with_reducible rfl
    try simp only [Act.put, List.getElem_toArray, List.getElem_cons_zero, List.getElem_cons_succ, List.setIfInBounds_toArray, List.set_cons_zero, List.set_cons_succ]
    refine wpAnyH_take (i := 8) (v := ?_) rfl (by kernel_rfl) (by kernel_rfl) (by kernel_rfl) (fun _ _ _ h => h) (Or.inl ⟨by rfl, fun V hV => ?_⟩) (by assumption) ?_
    rotate_left
    · go_simp
      try with_reducible rfl
    try simp only [Act.put, List.getElem_toArray, List.getElem_cons_zero, List.getElem_cons_succ, List.setIfInBounds_toArray, List.set_cons_zero, List.set_cons_succ]
    refine wpAnyH_take (i := 9) (v := ?_) rfl (by kernel_rfl) (by kernel_rfl) (by kernel_rfl) (fun _ _ _ h => h) (Or.inl ⟨by rfl, fun V hV => ?_⟩) (by assumption) ?_
    rotate_left
    · go_simp
      try with_reducible rfl
    try simp only [Act.put, List.getElem_toArray, List.getElem_cons_zero, List.getElem_cons_succ, List.setIfInBounds_toArray, List.set_cons_zero, List.set_cons_succ]
    refine wpAnyH_take (i := 10) (v := ?_) rfl (by kernel_rfl) (by kernel_rfl) (by kernel_rfl) (fun _ _ _ h => h) (Or.inl ⟨by rfl, fun V hV => ?_⟩) (by assumption) ?_
    rotate_left
    · go_simp
      try with_reducible rfl
    try simp only [Act.put, List.getElem_toArray, List.getElem_cons_zero, List.getElem_cons_succ, List.setIfInBounds_toArray, List.set_cons_zero, List.set_cons_succ]
    refine wpAnyH_done (by kernel_rfl) ?_ _
    have HU9 := hid hS.1; have HX5 := hid (HX5.out.below hS.2)
    clear hS
    cases hh : hasT s ((andN (2 ^ n - 1) N : Nat) : Int)
    · go_upto_region 9 with fail
      generalize s3 = U9 at HU9 HX5 ⊢
      refine wp_region_held_drew (S := fun V => Boxed1 w #[.int .i64 s.wide, .int .i64 s.high, .int .i64 s.fall, .int .i64 s.a.lo, .int .i64 s.a.hi, .int .i64 s.b.lo, .int .i64 s.b.hi, .int .i64 s.half.lo, .int .i64 s.half.hi, .int .i64 s.peak.lo, .int .i64 s.peak.hi, .slice p n c] 26 V ∧ Below U9.heap.size U9 V) (by kernel_rfl) (⟨HU9.out.drew, (Below.refl _ _).drew⟩) (fun hS => ?_)
      simp only [List.size_toArray, List.length_cons, List.length_nil, Nat.reduceAdd, Array.replicate_succ, Array.replicate_zero, List.push_toArray, List.nil_append, List.cons_append]
      refine wpAnyH_take (i := 0) (v := ?_) rfl (by kernel_rfl) (by kernel_rfl) (by kernel_rfl) (fun _ _ _ h => h) (Or.inl ⟨by rfl, fun V hV => ?_⟩) (by assumption) ?_
      rotate_left
      · have e0 := (StoAt.of hV.1.cell).c0; have e1 := (StoAt.of hV.1.cell).c1; have e2 := (StoAt.of hV.1.cell).c2; have e3 := (StoAt.of hV.1.cell).c3; have e4 := (StoAt.of hV.1.cell).c4; have e5 := (StoAt.of hV.1.cell).c5; have e6 := (StoAt.of hV.1.cell).c6; have e7 := (StoAt.of hV.1.cell).c7; have e8 := (StoAt.of hV.1.cell).c8; have e9 := (StoAt.of hV.1.cell).c9; have e10 := (StoAt.of hV.1.cell).c10; have e11 := (StoAt.of hV.1.cell).c11; go_simp
        try with_reducible rfl
      try simp only [Act.put, List.getElem_toArray, List.getElem_cons_zero, List.setIfInBounds_toArray, List.set_cons_zero, List.set_cons_succ]
      refine wpAnyH_take (i := 1) (v := ?_) rfl (by kernel_rfl) (by kernel_rfl) (by kernel_rfl) (fun _ _ _ h => h) (Or.inl ⟨by rfl, fun V hV => ?_⟩) (by assumption) ?_
      rotate_left
      · have e0 := (StoAt.of hV.1.cell).c0; have e1 := (StoAt.of hV.1.cell).c1; have e2 := (StoAt.of hV.1.cell).c2; have e3 := (StoAt.of hV.1.cell).c3; have e4 := (StoAt.of hV.1.cell).c4; have e5 := (StoAt.of hV.1.cell).c5; have e6 := (StoAt.of hV.1.cell).c6; have e7 := (StoAt.of hV.1.cell).c7; have e8 := (StoAt.of hV.1.cell).c8; have e9 := (StoAt.of hV.1.cell).c9; have e10 := (StoAt.of hV.1.cell).c10; have e11 := (StoAt.of hV.1.cell).c11; go_simp
        try with_reducible rfl
      try simp only [Act.put, List.getElem_toArray, List.getElem_cons_zero, List.getElem_cons_succ, List.setIfInBounds_toArray, List.set_cons_zero, List.set_cons_succ]
      refine wpAnyH_take (i := 3) (v := ?_) rfl (by kernel_rfl) (by kernel_rfl) (by kernel_rfl) (fun _ _ _ h => h) (Or.inl ⟨by rfl, fun V hV => ?_⟩) (by assumption) ?_
      rotate_left
      · go_simp
        try with_reducible rfl
      try simp only [Act.put, List.getElem_toArray, List.getElem_cons_zero, List.getElem_cons_succ, List.setIfInBounds_toArray, List.set_cons_zero, List.set_cons_succ]
      refine wpAnyH_ready (rs := [2]) (by kernel_rfl) (by simp) ?_
      refine AllReadyH.cons (o := _) rfl (fun K hK => ?_) AllReadyH.nil
      go_simp
      (with_reducible refine (every_any s p n c _ (by omega)).mono ?_)
      rintro e s2 ⟨rfl, hb2⟩
      refine hK.out _ _ (⟨hS.1.step hb2, hS.2.trans (hb2.mono hS.2.size)⟩) (fun hS => ?_)
      clear hK K
      try simp only [List.setIfInBounds_toArray, List.set_cons_zero, List.set_cons_succ]
      refine wpAnyH_take (i := 4) (v := ?_) rfl (by kernel_rfl) (by kernel_rfl) (by kernel_rfl) (fun _ _ _ h => h) (Or.inl ⟨by rfl, fun V hV => ?_⟩) (by assumption) ?_
      rotate_left
      · have q1 := HAN9.out; go_simp
        try with_reducible rfl
      try simp only [Act.put, List.getElem_toArray, List.getElem_cons_zero, List.getElem_cons_succ, List.setIfInBounds_toArray, List.set_cons_zero, List.set_cons_succ]
      refine wpAnyH_ready (rs := [5]) (by kernel_rfl) (by simp) ?_
      refine AllReadyH.cons (o := _) rfl (fun K hK => ?_) AllReadyH.nil
      go_simp
      refine (has43_any s p n c ((andN (2 ^ n - 1) N : Nat) : Int) _ (HC.out.below hS.1.below) HOK.out (by omega) (by have := andN_lt (2 ^ n - 1) N; omega)).mono ?_
      rintro e s3 ⟨rfl, hb3⟩
      rw [hh]
      refine hK.out _ _ (⟨hS.1.step hb3, hS.2.trans (hb3.mono hS.2.size)⟩) (fun hS => ?_)
      clear hK K
      try simp only [List.setIfInBounds_toArray, List.set_cons_zero, List.set_cons_succ]
      refine wpAnyH_take (i := 6) (v := ?_) rfl (by kernel_rfl) (by kernel_rfl) (by kernel_rfl) (fun _ _ _ h => h) (Or.inl ⟨by rfl, fun V hV => ?_⟩) (by assumption) ?_
      rotate_left
      · go_simp
        try with_reducible rfl
      try simp only [Act.put, List.getElem_toArray, List.getElem_cons_zero, List.getElem_cons_succ, List.setIfInBounds_toArray, List.set_cons_zero, List.set_cons_succ]
      refine wpAnyH_take (i := 7) (v := ?_) rfl (by kernel_rfl) (by kernel_rfl) (by kernel_rfl) (fun _ _ _ h => h) (Or.inl ⟨by rfl, fun V hV => ?_⟩) (by assumption) ?_
      rotate_left
      · go_simp
        try with_reducible rfl
      try simp only [Act.put, List.getElem_toArray, List.getElem_cons_zero, List.getElem_cons_succ, List.setIfInBounds_toArray, List.set_cons_zero, List.set_cons_succ]
      refine wpAnyH_take (i := 8) (v := ?_) rfl (by kernel_rfl) (by kernel_rfl) (by kernel_rfl) (fun _ _ _ h => h) (Or.inl ⟨by rfl, fun V hV => ?_⟩) (by assumption) ?_
      rotate_left
      · go_simp
        try with_reducible rfl
      try simp only [Act.put, List.getElem_toArray, List.getElem_cons_zero, List.getElem_cons_succ, List.setIfInBounds_toArray, List.set_cons_zero, List.set_cons_succ]
      refine wpAnyH_take (i := 9) (v := ?_) rfl (by kernel_rfl) (by kernel_rfl) (by kernel_rfl) (fun _ _ _ h => h) (Or.inl ⟨by rfl, fun V hV => ?_⟩) (by assumption) ?_
      rotate_left
      · go_simp
        try with_reducible rfl
      try simp only [Act.put, List.getElem_toArray, List.getElem_cons_zero, List.getElem_cons_succ, List.setIfInBounds_toArray, List.set_cons_zero, List.set_cons_succ]
      refine wpAnyH_take (i := 10) (v := ?_) rfl (by kernel_rfl) (by kernel_rfl) (by kernel_rfl) (fun _ _ _ h => h) (Or.inl ⟨by rfl, fun V hV => ?_⟩) (by assumption) ?_
      rotate_left
      · go_simp
        try with_reducible rfl
      try simp only [Act.put, List.getElem_toArray, List.getElem_cons_zero, List.getElem_cons_succ, List.setIfInBounds_toArray, List.set_cons_zero, List.set_cons_succ]
      refine wpAnyH_done (by kernel_rfl) ?_ _
      have HS9 := hid hS.1
      clear hS
      go_wp2_with fail
      refine (awake_any _).mono ?_
      rintro e w9 ⟨rfl, hb9⟩
      go_wp2_with fail
      go_ret
      exact ⟨rfl, HS9.out.below.trans (hb9.mono HS9.out.below.size)⟩
    · go_upto_region 9 with fail
      generalize s3 = U9 at HU9 HX5 ⊢
      refine wp_region_held_drew (S := fun V => Boxed1 w #[.int .i64 s.wide, .int .i64 s.high, .int .i64 s.fall, .int .i64 s.a.lo, .int .i64 s.a.hi, .int .i64 s.b.lo, .int .i64 s.b.hi, .int .i64 s.half.lo, .int .i64 s.half.hi, .int .i64 s.peak.lo, .int .i64 s.peak.hi, .slice p n c] 26 V ∧ Below U9.heap.size U9 V) (by kernel_rfl) (⟨HU9.out.drew, (Below.refl _ _).drew⟩) (fun hS => ?_)
      simp only [List.size_toArray, List.length_cons, List.length_nil, Nat.reduceAdd, Array.replicate_succ, Array.replicate_zero, List.push_toArray, List.nil_append, List.cons_append]
      refine wpAnyH_take (i := 0) (v := ?_) rfl (by kernel_rfl) (by kernel_rfl) (by kernel_rfl) (fun _ _ _ h => h) (Or.inl ⟨by rfl, fun V hV => ?_⟩) (by assumption) ?_
      rotate_left
      · have e0 := (StoAt.of hV.1.cell).c0; have e1 := (StoAt.of hV.1.cell).c1; have e2 := (StoAt.of hV.1.cell).c2; have e3 := (StoAt.of hV.1.cell).c3; have e4 := (StoAt.of hV.1.cell).c4; have e5 := (StoAt.of hV.1.cell).c5; have e6 := (StoAt.of hV.1.cell).c6; have e7 := (StoAt.of hV.1.cell).c7; have e8 := (StoAt.of hV.1.cell).c8; have e9 := (StoAt.of hV.1.cell).c9; have e10 := (StoAt.of hV.1.cell).c10; have e11 := (StoAt.of hV.1.cell).c11; go_simp
        try with_reducible rfl
      try simp only [Act.put, List.getElem_toArray, List.getElem_cons_zero, List.setIfInBounds_toArray, List.set_cons_zero, List.set_cons_succ]
      refine wpAnyH_take (i := 1) (v := ?_) rfl (by kernel_rfl) (by kernel_rfl) (by kernel_rfl) (fun _ _ _ h => h) (Or.inl ⟨by rfl, fun V hV => ?_⟩) (by assumption) ?_
      rotate_left
      · have e0 := (StoAt.of hV.1.cell).c0; have e1 := (StoAt.of hV.1.cell).c1; have e2 := (StoAt.of hV.1.cell).c2; have e3 := (StoAt.of hV.1.cell).c3; have e4 := (StoAt.of hV.1.cell).c4; have e5 := (StoAt.of hV.1.cell).c5; have e6 := (StoAt.of hV.1.cell).c6; have e7 := (StoAt.of hV.1.cell).c7; have e8 := (StoAt.of hV.1.cell).c8; have e9 := (StoAt.of hV.1.cell).c9; have e10 := (StoAt.of hV.1.cell).c10; have e11 := (StoAt.of hV.1.cell).c11; go_simp
        try with_reducible rfl
      try simp only [Act.put, List.getElem_toArray, List.getElem_cons_zero, List.getElem_cons_succ, List.setIfInBounds_toArray, List.set_cons_zero, List.set_cons_succ]
      refine wpAnyH_take (i := 3) (v := ?_) rfl (by kernel_rfl) (by kernel_rfl) (by kernel_rfl) (fun _ _ _ h => h) (Or.inl ⟨by rfl, fun V hV => ?_⟩) (by assumption) ?_
      rotate_left
      · go_simp
        try with_reducible rfl
      try simp only [Act.put, List.getElem_toArray, List.getElem_cons_zero, List.getElem_cons_succ, List.setIfInBounds_toArray, List.set_cons_zero, List.set_cons_succ]
      refine wpAnyH_ready (rs := [2]) (by kernel_rfl) (by simp) ?_
      refine AllReadyH.cons (o := _) rfl (fun K hK => ?_) AllReadyH.nil
      go_simp
      (with_reducible refine (every_any s p n c _ (by omega)).mono ?_)
      rintro e s2 ⟨rfl, hb2⟩
      refine hK.out _ _ (⟨hS.1.step hb2, hS.2.trans (hb2.mono hS.2.size)⟩) (fun hS => ?_)
      clear hK K
      try simp only [List.setIfInBounds_toArray, List.set_cons_zero, List.set_cons_succ]
      refine wpAnyH_take (i := 4) (v := ?_) rfl (by kernel_rfl) (by kernel_rfl) (by kernel_rfl) (fun _ _ _ h => h) (Or.inl ⟨by rfl, fun V hV => ?_⟩) (by assumption) ?_
      rotate_left
      · have q1 := HAN9.out; go_simp
        try with_reducible rfl
      try simp only [Act.put, List.getElem_toArray, List.getElem_cons_zero, List.getElem_cons_succ, List.setIfInBounds_toArray, List.set_cons_zero, List.set_cons_succ]
      refine wpAnyH_ready (rs := [5]) (by kernel_rfl) (by simp) ?_
      refine AllReadyH.cons (o := _) rfl (fun K hK => ?_) AllReadyH.nil
      go_simp
      refine (has43_any s p n c ((andN (2 ^ n - 1) N : Nat) : Int) _ (HC.out.below hS.1.below) HOK.out (by omega) (by have := andN_lt (2 ^ n - 1) N; omega)).mono ?_
      rintro e s3 ⟨rfl, hb3⟩
      rw [hh]
      refine hK.out _ _ (⟨hS.1.step hb3, hS.2.trans (hb3.mono hS.2.size)⟩) (fun hS => ?_)
      clear hK K
      try simp only [List.setIfInBounds_toArray, List.set_cons_zero, List.set_cons_succ]
      refine wpAnyH_take (i := 6) (v := ?_) rfl (by kernel_rfl) (by kernel_rfl) (by kernel_rfl) (fun _ _ _ h => h) (Or.inl ⟨by rfl, fun V hV => ?_⟩) (by assumption) ?_
      rotate_left
      · go_simp
        try with_reducible rfl
      try simp only [Act.put, List.getElem_toArray, List.getElem_cons_zero, List.getElem_cons_succ, List.setIfInBounds_toArray, List.set_cons_zero, List.set_cons_succ]
      refine wpAnyH_take (i := 7) (v := ?_) rfl (by kernel_rfl) (by kernel_rfl) (by kernel_rfl) (fun _ _ _ h => h) (Or.inl ⟨by rfl, fun V hV => ?_⟩) (by assumption) ?_
      rotate_left
      · go_simp
        try with_reducible rfl
      try simp only [Act.put, List.getElem_toArray, List.getElem_cons_zero, List.getElem_cons_succ, List.setIfInBounds_toArray, List.set_cons_zero, List.set_cons_succ]
      refine wpAnyH_take (i := 8) (v := ?_) rfl (by kernel_rfl) (by kernel_rfl) (by kernel_rfl) (fun _ _ _ h => h) (Or.inl ⟨by rfl, fun V hV => ?_⟩) (by assumption) ?_
      rotate_left
      · go_simp
        try with_reducible rfl
      try simp only [Act.put, List.getElem_toArray, List.getElem_cons_zero, List.getElem_cons_succ, List.setIfInBounds_toArray, List.set_cons_zero, List.set_cons_succ]
      refine wpAnyH_take (i := 9) (v := ?_) rfl (by kernel_rfl) (by kernel_rfl) (by kernel_rfl) (fun _ _ _ h => h) (Or.inl ⟨by rfl, fun V hV => ?_⟩) (by assumption) ?_
      rotate_left
      · go_simp
        try with_reducible rfl
      try simp only [Act.put, List.getElem_toArray, List.getElem_cons_zero, List.getElem_cons_succ, List.setIfInBounds_toArray, List.set_cons_zero, List.set_cons_succ]
      refine wpAnyH_take (i := 10) (v := ?_) rfl (by kernel_rfl) (by kernel_rfl) (by kernel_rfl) (fun _ _ _ h => h) (Or.inl ⟨by rfl, fun V hV => ?_⟩) (by assumption) ?_
      rotate_left
      · go_simp
        try with_reducible rfl
      try simp only [Act.put, List.getElem_toArray, List.getElem_cons_zero, List.getElem_cons_succ, List.setIfInBounds_toArray, List.set_cons_zero, List.set_cons_succ]
      refine wpAnyH_done (by kernel_rfl) ?_ _
      have HS9 := hid hS.1; have HX9 := hid (HX5.out.below hS.2)
      clear hS
      have HSH := hid (HNO.out hh)
      clear hh
      go_wp2_with fail
      refine (bits_any _ _ (by omega) (by have := HN12.out; omega)).mono ?_
      rintro e s4 ⟨v, rfl, hown, hb4⟩
      obtain ⟨q8, d8, rfl, hl8⟩ := hown.slice
      have HS4 := hid (HS9.out.step hb4); have HX4 := hid (HX9.out.below hb4); have HL8 := hid hl8
      clear hb4 hown hl8
      go_wp2_with fail
      refine (shorter_any q8 _ d8 (bitsL (N : Int)) q k d X _ HL8.out HX4.out (by have := bitsTo_len (N : Int) 12; show (bitsTo _ 12).length ≤ _; omega) (by omega)).mono ?_
      rintro e s5 ⟨rfl, nn, rfl⟩
      rw [HSH.out]
      have HS5 := hid (HS4.out.drewN nn)
      clear HL8
      go_wp2_with fail
      refine (awake_any _).mono ?_
      rintro e w9 ⟨rfl, hb9⟩
      go_wp2_with fail
      go_ret
      exact ⟨rfl, HS5.out.below.trans (hb9.mono HS5.out.below.size)⟩
end Go.Proofs.Ytfnefkenheglhaa
