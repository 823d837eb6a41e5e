/- The reference: the first wrong card, the smallest set, the smallest clash. No condition but that all cards fit in words. -/
import Derived.Test.YtfnefkenheglhaaPlV
namespace Go.Proofs.Ytfnefkenheglhaa
open Go.RowKit

theorem two_bits {k : Nat} (hk : k ≤ 6) : ∃ N : Nat, 2 ^ k = N ∧ 1 ≤ N ∧ N ≤ 64 ∧ wrap64 (2 ^ k) = (N : Int) ∧ wrap64 (2 * 2 ^ k) = 2 * (N : Int) ∧ ((2 ^ k - 1 : Nat) : Int) = (N : Int) - 1 ∧ ((2 ^ (k + 1) - 1 : Nat) : Int) = 2 * (N : Int) - 1 := by
  have : k = 0 ∨ k = 1 ∨ k = 2 ∨ k = 3 ∨ k = 4 ∨ k = 5 ∨ k = 6 := by omega
  rcases this with rfl | rfl | rfl | rfl | rfl | rfl | rfl <;> exact ⟨_, rfl, by decide, by decide, by decide +kernel, by decide +kernel, by decide +kernel, by decide +kernel⟩

set_option maxRecDepth 20000 in
set_option maxHeartbeats 4000000 in
theorem firstR_any (s : Sto) (p : Option Addr) (n c : Nat) (q : Option Addr) (N d : Nat) (all : List Nat) (w : World) (hl : IntsAt w q N (castL all)) (hN : N ≤ 1000000) (ha : ∀ a ∈ all, a < 4096) (hn : n ≤ 6) :
    Calls Try.prog 35 #[.agg #[.int .i64 s.wide, .int .i64 s.high, .int .i64 s.fall, .int .i64 s.a.lo, .int .i64 s.a.hi, .int .i64 s.b.lo, .int .i64 s.b.hi, .int .i64 s.half.lo, .int .i64 s.half.hi, .int .i64 s.peak.lo, .int .i64 s.peak.hi, .slice p n c], .slice q N d] w fun e w' => e = .returned (.int .i64 (firstG (fun j => canN all (2 ^ (j + 1) - 1)) 0 n)) ∧ Below w.heap.size w w' := by
  have HA := hid (fun W (k : Nat) (hk : k < 4096) (hW : Below w.heap.size w W) => can_any q N d all k W (hl.below hW) hN ha hk)
  clear hl hN ha
  go_enter Try.func35, Try.ntmps35
  go_wp2_with fail
  go_loopw [5] (fun i wr => ∃ k : Nat, k ≤ n ∧ i = .int .i64 k ∧ firstG (fun j => canN all (2 ^ (j + 1) - 1)) k (n - k) = firstG (fun j => canN all (2 ^ (j + 1) - 1)) 0 n ∧ Boxed1 w #[.int .i64 s.wide, .int .i64 s.high, .int .i64 s.fall, .int .i64 s.a.lo, .int .i64 s.a.hi, .int .i64 s.b.lo, .int .i64 s.b.hi, .int .i64 s.half.lo, .int .i64 s.half.hi, .int .i64 s.peak.lo, .int .i64 s.peak.hi, .slice p n c] 26 wr) (fun i _ => n - (intOf i).toNat)
  case atStart => exact ⟨0, by omega, rfl, rfl, Boxed1.start _ _ _⟩
  case round =>
    obtain ⟨k, hk, rfl, hr, HB⟩ := hrel
    have HR := hid hr
    clear hr
    have e11 := (StoAt.of HB.cell).c11
    by_cases hlt : k < n
    · obtain ⟨P, hP, hP1, hP2, hP3, hP4, hP5, hP6⟩ := two_bits (show k ≤ 6 by omega)
      have HG := hid (firstG_go (fun j => canN all (2 ^ (j + 1) - 1)) k n hlt)
      have HQ : Hid (2 * (P : Int) - 1 = ((2 ^ (k + 1) - 1 : Nat) : Int) ∧ 2 ^ (k + 1) - 1 < 4096) := hid ⟨hP6.symm, by omega⟩
      have hcv : IntKind.u64.wrap (k : Int) = (k : Int) := by rw [IntKind.wrap_u64]; omega
      have hw9 : IntKind.i64.wrap (2 * (P : Int) - 1) = 2 * (P : Int) - 1 := IntWalk.i64_in _ (by omega)
      clear hP hP5 hP6
      go_wp2_with fail
      rw [HQ.out.1]
      refine (HA.out _ _ HQ.out.2 HB.below).mono ?_
      rintro e w2 ⟨rfl, rfl⟩
      cases hc : canN all (2 ^ (k + 1) - 1)
      · have HF : Hid (firstG (fun j => canN all (2 ^ (j + 1) - 1)) 0 n = (k : Int)) := by show _ = _; rw [← HR.out, HG.out]; simp [hc]
        clear hc
        go_wp2_with fail
        go_ret
        exact ⟨ret_int HF.out.symm, HB.below⟩
      · have HF : Hid (firstG (fun j => canN all (2 ^ (j + 1) - 1)) (k + 1) (n - (k + 1)) = firstG (fun j => canN all (2 ^ (j + 1) - 1)) 0 n) := by show _ = _; rw [← HR.out, HG.out]; simp [hc]
        clear hc
        go_wp2_with fail
        go_roundw
        case rel => exact ⟨k + 1, by omega, by go_num, HF.out, HB⟩
        case measure => simp [intOf]; omega
    · have HF : Hid (firstG (fun j => canN all (2 ^ (j + 1) - 1)) 0 n = -1) := by show _ = _; rw [← HR.out, firstG_end _ _ _ hlt]
      go_wp2_with fail
      go_ret
      exact ⟨ret_int HF.out.symm, HB.below⟩

set_option maxRecDepth 20000 in
set_option maxHeartbeats 4000000 in
theorem leaveR_any (s : Sto) (p : Option Addr) (n c : Nat) (q : Option Addr) (N d : Nat) (all : List Nat) (w : World) (hl : IntsAt w q N (castL all)) (hN : N ≤ 1000000) (ha : ∀ a ∈ all, a < 4096) (hn : n ≤ 6) :
    Calls Try.prog 33 #[.agg #[.int .i64 s.wide, .int .i64 s.high, .int .i64 s.fall, .int .i64 s.a.lo, .int .i64 s.a.hi, .int .i64 s.b.lo, .int .i64 s.b.hi, .int .i64 s.half.lo, .int .i64 s.half.hi, .int .i64 s.peak.lo, .int .i64 s.peak.hi, .slice p n c], .slice q N d] w (RetInts w (bestL (fun b => canN all (andN (2 ^ n - 1) b)) n)) := by
  have HA := hid (fun W (k : Nat) (hk : k < 4096) (hW : Below w.heap.size w W) => can_any q N d all k W (hl.below hW) hN ha hk)
  have HE := hid (fun W => every_any s p n c W (by omega))
  have HAN := hid (fun k (hk : k < 4096) => i64_andnot_nat (2 ^ n - 1) k (by have h1 := Nat.two_pow_pos n; have h2 : 2 ^ n ≤ 64 := Nat.pow_le_pow_right (n := 2) (by decide) hn; omega))
  have HLT := hid (fun k => andN_lt (2 ^ n - 1) k)
  obtain ⟨M, hM, hM1, hM2, hM3⟩ := pow_facts (show n ≤ 9 by omega)
  have HEV : Hid (everyN n = (M : Int) - 1) := by show _ = _; rw [everyN, hM]; omega
  have HM := hid hM
  have HBL : Hid (bestL (fun b => canN all (andN (2 ^ n - 1) b)) n = bestG (fun b => canN all (andN (2 ^ n - 1) b)) 0 M (bitsL ((M : Int) - 1))) := by
    have e : (2 : Int) ^ n = ((2 ^ n : Nat) : Int) := by simp
    show _ = _
    unfold bestL
    rw [e, hM]
  obtain ⟨f, hf⟩ : ∃ f, (fun b => canN all (andN (2 ^ n - 1) b)) = f := ⟨_, rfl⟩
  have HFF : Hid (∀ k : Nat, f k = canN all (andN (M - 1) k)) := by show ∀ k, _; intro k; rw [← hf, hM]
  have HAN2 : Hid (∀ k : Nat, k < 4096 → bits .andNot .i64 ((M : Int) - 1) (k : Int) = ((andN (M - 1) k : Nat) : Int)) := by
    show ∀ k, _
    intro k hk
    have h := HAN.out k hk
    rw [hM, show ((M - 1 : Nat) : Int) = (M : Int) - 1 by omega] at h
    exact h
  have HLT2 : Hid (∀ k : Nat, andN (M - 1) k < 4096) := hid fun k => andN_lt _ _
  rw [hf] at HBL ⊢
  clear hl hN ha hM hf HAN HLT
  go_enter Try.func33, Try.ntmps33
  go_wp2_with fail
  refine (HE.out _).mono ?_
  rintro e w0 ⟨rfl, hb⟩
  rw [HEV.out]
  have HB0 : Boxed1 w #[.int .i64 s.wide, .int .i64 s.high, .int .i64 s.fall, .int .i64 s.a.lo, .int .i64 s.a.hi, .int .i64 s.b.lo, .int .i64 s.b.hi, .int .i64 s.half.lo, .int .i64 s.half.hi, .int .i64 s.peak.lo, .int .i64 s.peak.hi, .slice p n c] 26 w0 := (Boxed1.start _ _ _).step hb
  clear hb
  go_wp2_with fail
  refine (bits_any _ _ (by omega) (by omega)).mono ?_
  rintro e w1 ⟨v0, rfl, ho0, hb0⟩
  have ho0' := ho0.mono (base' := w.heap.size) (by have := HB0.size; omega)
  have HB1 := HB0.step hb0
  clear ho0 hb0 HB0
  go_wp2_with fail
  go_loopw [5, 6] (fun v i wr => ∃ (k : Nat) (b : List Int), k ≤ M ∧ i = .int .i64 k ∧ OwnInts wr w.heap.size v b ∧ b.length ≤ 12 ∧ bestG f k (M - k) b = bestL f n ∧ Boxed1 w #[.int .i64 s.wide, .int .i64 s.high, .int .i64 s.fall, .int .i64 s.a.lo, .int .i64 s.a.hi, .int .i64 s.b.lo, .int .i64 s.b.hi, .int .i64 s.half.lo, .int .i64 s.half.hi, .int .i64 s.peak.lo, .int .i64 s.peak.hi, .slice p n c] 26 wr) (fun _ i _ => M - (intOf i).toNat)
  case atStart => exact ⟨0, _, by omega, rfl, ho0', bitsTo_len _ _, HBL.out.symm, HB1⟩
  case round =>
    clear HB1 ho0'
    obtain ⟨k, b, hk, rfl, ho, hbl, hr, HB⟩ := hrel
    have HR := hid hr
    clear hr
    have e0 := (StoAt.of HB.cell).c0; have e1 := (StoAt.of HB.cell).c1; have e2 := (StoAt.of HB.cell).c2; have e3 := (StoAt.of HB.cell).c3; have e4 := (StoAt.of HB.cell).c4; have e5 := (StoAt.of HB.cell).c5; have e6 := (StoAt.of HB.cell).c6; have e7 := (StoAt.of HB.cell).c7; have e8 := (StoAt.of HB.cell).c8; have e9 := (StoAt.of HB.cell).c9; have e10 := (StoAt.of HB.cell).c10; have e11 := (StoAt.of HB.cell).c11
    go_wp2_with fail
    refine (HE.out _).mono ?_
    rintro e wa ⟨rfl, hba⟩
    rw [HEV.out]
    have hoa := ho.below hba
    have HBa := HB.step hba
    clear ho hba HB e0 e1 e2 e3 e4 e5 e6 e7 e8 e9 e10 e11
    by_cases hlt : k < M
    · have HG := hid (bestG_go f k M b hlt)
      have hle : decide ((k : Int) ≤ (M : Int) - 1) = true := by rw [decide_eq_true_eq]; omega
      go_wp2_with fail
      refine (bits_any _ _ (by omega) (by omega)).mono ?_
      rintro e w2 ⟨v2, rfl, ho2, hb2⟩
      have HB2 := HBa.step hb2
      have hob := hoa.below hb2
      have ho2' := ho2.mono (base' := w.heap.size) (by have := HBa.size; omega)
      obtain ⟨p1, c1, rfl, hi1⟩ := hob.slice
      obtain ⟨p2, c2, rfl, hi2⟩ := ho2.slice
      have h2l : (bitsL (k : Int)).length ≤ 12 := bitsTo_len _ _
      have HOB := hid hob
      have HO2 := hid ho2'
      have HI1 := hid hi1
      have HI2 := hid hi2
      clear hoa ho2 hb2 hob ho2' hi1 hi2 HBa hle
      go_wp2_with fail
      refine (shorter_any _ _ _ _ _ _ _ _ _ HI2.out HI1.out (by omega) (by omega)).mono ?_
      rintro e w3 ⟨rfl, nn, rfl⟩
      cases hsh : shorterB (bitsL (k : Int)) b
      · have HF : Hid (bestG f (k + 1) (M - (k + 1)) b = bestL f n) := by
          show _ = _; rw [← HR.out, HG.out, hsh]; rfl
        go_wp2_with fail
        go_roundw
        case rel => exact ⟨k + 1, _, by omega, by go_num, HOB.out.below (below_drewN (Below.refl _ _) _), hbl, HF.out, HB2.drewN _⟩
        case measure => simp [intOf]; omega
      · have HB3 := HB2.drewN nn
        have e0 := (StoAt.of HB3.cell).c0; have e1 := (StoAt.of HB3.cell).c1; have e2 := (StoAt.of HB3.cell).c2; have e3 := (StoAt.of HB3.cell).c3; have e4 := (StoAt.of HB3.cell).c4; have e5 := (StoAt.of HB3.cell).c5; have e6 := (StoAt.of HB3.cell).c6; have e7 := (StoAt.of HB3.cell).c7; have e8 := (StoAt.of HB3.cell).c8; have e9 := (StoAt.of HB3.cell).c9; have e10 := (StoAt.of HB3.cell).c10; have e11 := (StoAt.of HB3.cell).c11
        go_wp2_with fail
        refine (HE.out _).mono ?_
        rintro e w4 ⟨rfl, hb4⟩
        rw [HEV.out]
        have HB4 := HB3.step hb4
        have hand := HAN2.out k (by omega)
        clear e0 e1 e2 e3 e4 e5 e6 e7 e8 e9 e10 e11
        go_wp2_with fail
        refine (HA.out _ _ (HLT2.out k) HB4.below).mono ?_
        rintro e w5 ⟨rfl, rfl⟩
        rw [← HFF.out k]
        cases hcan : f k
        · have HF : Hid (bestG f (k + 1) (M - (k + 1)) b = bestL f n) := by
            show _ = _; rw [← HR.out, HG.out, hsh, hcan]; rfl
          clear hsh hcan
          go_wp2_with fail
          go_roundw
          case rel => exact ⟨k + 1, _, by omega, by go_num, (HOB.out.below (below_drewN (Below.refl _ _) _)).below hb4, hbl, HF.out, HB4⟩
          case measure => simp [intOf]; omega
        · have HF : Hid (bestG f (k + 1) (M - (k + 1)) (bitsL k) = bestL f n) := by
            show _ = _; rw [← HR.out, HG.out, hsh, hcan]; rfl
          clear hsh hcan
          go_wp2_with fail
          go_roundw
          case rel => exact ⟨k + 1, _, by omega, by go_num, (HO2.out.below (below_drewN (Below.refl _ _) _)).below hb4, h2l, HF.out, HB4⟩
          case measure => simp [intOf]; omega
    · have HF : Hid (b = bestL f n) := by show _ = _; rw [← HR.out, bestG_end _ _ _ _ hlt]
      have hle : decide ((k : Int) ≤ (M : Int) - 1) = false := by rw [decide_eq_false_iff_not]; omega
      go_wp2_with fail
      go_ret
      exact ⟨_, rfl, HF.out ▸ hoa, HBa.below⟩

/-- What the reference's Clash returns. -/
def ClashRPost (o : Option (List Int)) (w : World) : Ending → World → Prop := fun e w' => ∃ v, e = .returned (.tuple #[v, .bool o.isSome]) ∧ OwnInts w' w.heap.size v (o.getD []) ∧ Below w.heap.size w w'

set_option maxRecDepth 20000 in
set_option maxHeartbeats 4000000 in
theorem clashR_any (s : Sto) (p : Option Addr) (n c : Nat) (q : Option Addr) (N d : Nat) (all : List Nat) (w : World) (hl : IntsAt w q N (castL all)) (hN : N ≤ 1000000) (ha : ∀ a ∈ all, a < 4096) (hn : n ≤ 6) :
    Calls Try.prog 34 #[.agg #[.int .i64 s.wide, .int .i64 s.high, .int .i64 s.fall, .int .i64 s.a.lo, .int .i64 s.a.hi, .int .i64 s.b.lo, .int .i64 s.b.hi, .int .i64 s.half.lo, .int .i64 s.half.hi, .int .i64 s.peak.lo, .int .i64 s.peak.hi, .slice p n c], .slice q N d] w (ClashRPost (clashG (fun b => canN all b) 1 (2 ^ n - 1) none) w) := by
  have HA := hid (fun W (k : Nat) (hk : k < 4096) (hW : Below w.heap.size w W) => can_any q N d all k W (hl.below hW) hN ha hk)
  have HE := hid (fun W => every_any s p n c W (by omega))
  obtain ⟨M, hM, hM1, hM2, hM3⟩ := pow_facts (show n ≤ 9 by omega)
  have HEV : Hid (everyN n = (M : Int) - 1) := by show _ = _; rw [everyN, hM]; omega
  obtain ⟨f, hf⟩ : ∃ f, (fun b => canN all b) = f := ⟨_, rfl⟩
  have HFF : Hid (∀ k : Nat, canN all k = f k) := by show ∀ k, _; intro k; rw [← hf]
  rw [hf, hM]
  clear hl hN ha hM hf
  obtain ⟨R, hR⟩ : ∃ R, clashG f 1 (M - 1) none = R := ⟨_, rfl⟩
  rw [hR]
  have HRR := hid hR
  clear hR
  go_enter Try.func34, Try.ntmps34
  go_wp2_with fail
  go_loopw [6, 7, 8] (fun v g i wr => ∃ (k : Nat) (b : Option (List Int)), 1 ≤ k ∧ k ≤ M ∧ i = .int .i64 k ∧ g = .bool b.isSome ∧ OwnInts wr w.heap.size v (b.getD []) ∧ (b.getD []).length ≤ 12 ∧ clashG f k (M - k) b = R ∧ Boxed1 w #[.int .i64 s.wide, .int .i64 s.high, .int .i64 s.fall, .int .i64 s.a.lo, .int .i64 s.a.hi, .int .i64 s.b.lo, .int .i64 s.b.hi, .int .i64 s.half.lo, .int .i64 s.half.hi, .int .i64 s.peak.lo, .int .i64 s.peak.hi, .slice p n c] 26 wr) (fun _ _ i _ => M - (intOf i).toNat)
  case atStart => exact ⟨1, none, by omega, by omega, rfl, rfl, ownInts_nil _ _, by simp, HRR.out, Boxed1.start _ _ _⟩
  case round =>
    obtain ⟨k, b, hk1, hk, rfl, rfl, ho, hbl, hr, HB⟩ := hrel
    have HR := hid hr
    clear hr
    have e0 := (StoAt.of HB.cell).c0; have e1 := (StoAt.of HB.cell).c1; have e2 := (StoAt.of HB.cell).c2; have e3 := (StoAt.of HB.cell).c3; have e4 := (StoAt.of HB.cell).c4; have e5 := (StoAt.of HB.cell).c5; have e6 := (StoAt.of HB.cell).c6; have e7 := (StoAt.of HB.cell).c7; have e8 := (StoAt.of HB.cell).c8; have e9 := (StoAt.of HB.cell).c9; have e10 := (StoAt.of HB.cell).c10; have e11 := (StoAt.of HB.cell).c11
    go_wp2_with fail
    refine (HE.out _).mono ?_
    rintro e wa ⟨rfl, hba⟩
    rw [HEV.out]
    have hoa := ho.below hba
    have HBa := HB.step hba
    clear ho hba HB e0 e1 e2 e3 e4 e5 e6 e7 e8 e9 e10 e11
    by_cases hlt : k < M
    · have HG := hid (clashG_go f k M b hlt)
      have hle : decide ((k : Int) ≤ (M : Int) - 1) = true := by rw [decide_eq_true_eq]; omega
      go_wp2_with fail
      refine (bits_any _ _ (by omega) (by omega)).mono ?_
      rintro e w2 ⟨v2, rfl, ho2, hb2⟩
      have HB2 := HBa.step hb2
      have hob := hoa.below hb2
      have ho2' := ho2.mono (base' := w.heap.size) (by have := HBa.size; omega)
      obtain ⟨p1, c1, rfl, hi1⟩ := hob.slice
      obtain ⟨p2, c2, rfl, hi2⟩ := ho2.slice
      have h2l : (bitsL (k : Int)).length ≤ 12 := bitsTo_len _ _
      have HOB := hid hob
      have HO2 := hid ho2'
      have HI1 := hid hi1
      have HI2 := hid hi2
      clear hoa ho2 hb2 hob ho2' hi1 hi2 HBa hle
      cases b with
      | none =>
        simp only [Option.isSome_none, Option.getD_none] at HOB HI1 hbl ⊢
        go_wp2_with fail
        refine (HA.out _ _ (by omega) HB2.below).mono ?_
        rintro e w5 ⟨rfl, rfl⟩
        rw [HFF.out]
        cases hcan : f k
        · have HF : Hid (clashG f (k + 1) (M - (k + 1)) (some (bitsL k)) = R) := by
            show _ = _; rw [← HR.out, HG.out, hcan]; rfl
          clear hcan
          go_wp2_with fail
          go_roundw
          case rel => exact ⟨k + 1, some (bitsL k), by omega, by omega, by go_num, rfl, HO2.out, h2l, HF.out, HB2⟩
          case measure => simp [intOf]; omega
        · have HF : Hid (clashG f (k + 1) (M - (k + 1)) none = R) := by
            show _ = _; rw [← HR.out, HG.out, hcan]; rfl
          clear hcan
          go_wp2_with fail
          go_roundw
          case rel => exact ⟨k + 1, none, by omega, by omega, by go_num, rfl, HOB.out, by simp, HF.out, HB2⟩
          case measure => simp [intOf]; omega
      | some y =>
        simp only [Option.isSome_some, Option.getD_some] at HOB HI1 hbl ⊢
        go_wp2_with fail
        refine (shorter_any _ _ _ _ _ _ _ _ _ HI2.out HI1.out (by omega) (by omega)).mono ?_
        rintro e w3 ⟨rfl, nn, rfl⟩
        have HB3 := HB2.drewN nn
        have HOB3 := hid (HOB.out.below (below_drewN (Below.refl _ _) nn))
        have HO3 := hid (HO2.out.below (below_drewN (Below.refl _ _) nn))
        cases hsh : shorterB (bitsL (k : Int)) y
        · have HF : Hid (clashG f (k + 1) (M - (k + 1)) (some y) = R) := by
            show _ = _; rw [← HR.out, HG.out]; simp [hsh]
          clear hsh
          go_wp2_with fail
          go_roundw
          case rel => exact ⟨k + 1, some y, by omega, by omega, by go_num, rfl, HOB3.out, hbl, HF.out, HB3⟩
          case measure => simp [intOf]; omega
        · go_wp2_with fail
          refine (HA.out _ _ (by omega) HB3.below).mono ?_
          rintro e w5 ⟨rfl, rfl⟩
          rw [HFF.out]
          cases hcan : f k
          · have HF : Hid (clashG f (k + 1) (M - (k + 1)) (some (bitsL k)) = R) := by
              show _ = _; rw [← HR.out, HG.out]; simp [hsh, hcan]
            clear hsh hcan
            go_wp2_with fail
            go_roundw
            case rel => exact ⟨k + 1, some (bitsL k), by omega, by omega, by go_num, rfl, HO3.out, h2l, HF.out, HB3⟩
            case measure => simp [intOf]; omega
          · have HF : Hid (clashG f (k + 1) (M - (k + 1)) (some y) = R) := by
              show _ = _; rw [← HR.out, HG.out]; simp [hsh, hcan]
            clear hsh hcan
            go_wp2_with fail
            go_roundw
            case rel => exact ⟨k + 1, some y, by omega, by omega, by go_num, rfl, HOB3.out, hbl, HF.out, HB3⟩
            case measure => simp [intOf]; omega
    · have HF : Hid (b = R) := by show _ = _; rw [← HR.out, clashG_end _ _ _ _ hlt]
      have hle : decide ((k : Int) ≤ (M : Int) - 1) = false := by rw [decide_eq_false_iff_not]; omega
      go_wp2_with fail
      go_ret2
      exact ⟨_, by rw [HF.out]; rfl, HF.out ▸ hoa, HBa.below⟩
end Go.Proofs.Ytfnefkenheglhaa
