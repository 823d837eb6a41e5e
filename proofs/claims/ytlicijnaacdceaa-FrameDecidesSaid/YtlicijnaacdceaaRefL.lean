/- Walks over package hailstoneref03, part L: Fewest. -/
import Derived.Test.YtlicijnaacdceaaRefK
import Derived.Test.YtlicijnaacdceaaRefJ
namespace Go.Proofs.Ytlicijnaacdceaa
open Go.RowKit

set_option maxHeartbeats 4000000 in
set_option maxRecDepth 20000 in
theorem fewest_any (r cc : Int) (p : Option Addr) (n c : Nat) (l : List Int) (sm : Int) (q : Option Addr) (m d : Nat) (cs : List Cnt) (t : Option Addr) (z zc : Nat) (all : List Int) (part : Int) (w : World) (hl : IntsAt w p n l) (hz : IntsAt w t z all) (hz' : z ≤ 4000) (hok : OkS r cc l sm cs) (hall : ∀ x ∈ all, 0 ≤ x ∧ x ≤ 4000) :
    Calls Try.prog 30 #[.agg #[.int .i64 r, .int .i64 cc, .slice p n c, .int .i64 sm, .slice q m d], .slice t z zc, .int .i64 part] w (RetInts w (bestL (fun k => decideB l all part k) n)) := by
  have hn : n ≤ 9 := by rw [hl.1]; exact (field_facts hok.field).2.2.2.2.2.2.1
  have HC := hid (fun W (out : Int) (h0 : 0 ≤ out) (h1 : out < 4096) (hW : Below w.heap.size w W) => decide_any r cc p n c l sm q m d cs t z zc all part out W (hl.below hW) (hz.below hW) hz' hok hall h0 h1)
  obtain ⟨M, hM, hM1, hM2, hM3⟩ := pow_facts hn
  have HBL : Hid (bestL (fun k => decideB l all part k) n = bestG (fun k => decideB l all part k) 0 M (bitsL ((M : Int) - 1))) := by
    have e : (2 : Int) ^ n = ((2 ^ n : Nat) : Int) := by simp
    show _ = _
    unfold bestL
    rw [e, hM]
  clear hl hz hok hall hM
  go_enter Try.func30, Try.ntmps30
  go_wp2_with fail
  refine (bits_any _ _ (by omega) (by omega)).mono ?_
  rintro e w1 ⟨v0, rfl, ho0, hb0⟩
  have HB0 : Boxed1 w #[.int .i64 r, .int .i64 cc, .slice p n c, .int .i64 sm, .slice q m d] 27 w1 := hb0.mono (by simp)
  have ho0' := ho0.mono (base' := w.heap.size) (by simp)
  clear ho0 hb0
  go_wp2_with fail
  go_loopw [7, 8] (fun v i wr => ∃ (k : Nat) (b : List Int), k ≤ M ∧ i = .int .i64 k ∧ OwnInts wr w.heap.size v b ∧ b.length ≤ 12 ∧ bestG (fun k => decideB l all part k) k (M - k) b = bestL (fun k => decideB l all part k) n ∧ Boxed1 w #[.int .i64 r, .int .i64 cc, .slice p n c, .int .i64 sm, .slice q m d] 27 wr) (fun _ i _ => M - (intOf i).toNat)
  case atStart => exact ⟨0, _, by omega, rfl, ho0', bitsTo_len _ _, HBL.out.symm, HB0⟩
  case round =>
    clear HB0 ho0'
    obtain ⟨k, b, hk, rfl, ho, hbl, hr, HB⟩ := hrel
    have HR := hid hr
    clear hr
    have hs2 := HB.cell 2 (v := .slice p n c) rfl
    by_cases hlt : k < M
    · have HG := hid (bestG_go (fun k => decideB l all part k) k M b hlt)
      go_wp2_with fail
      refine (bits_any _ _ (by omega) (by omega)).mono ?_
      rintro e w2 ⟨v2, rfl, ho2, hb2⟩
      have HB2 := HB.step hb2
      have hob := ho.below hb2
      have ho2' := ho2.mono (base' := w.heap.size) (by have := HB.size; omega)
      obtain ⟨p1, c1, rfl, hi1⟩ := hob.slice
      obtain ⟨p2, c2, rfl, hi2⟩ := ho2.slice
      have h2l : (bitsL (k : Int)).length ≤ 12 := bitsTo_len _ _
      have HOB := hid hob
      have HO2 := hid ho2'
      have HI1 := hid hi1
      have HI2 := hid hi2
      clear ho ho2 hb2 hob ho2' hi1 hi2 hs2
      go_wp2_with fail
      refine (shorter_any _ _ _ _ _ _ _ _ _ HI2.out HI1.out (by omega) (by omega)).mono ?_
      rintro e w3 ⟨rfl, nn, rfl⟩
      cases hsh : shorterB (bitsL (k : Int)) b
      · have HF : Hid (bestG (fun k => decideB l all part k) (k + 1) (M - (k + 1)) b = bestL (fun k => decideB l all part k) n) := by
          show _ = _; rw [← HR.out, HG.out, hsh]; rfl
        go_wp2_with fail
        go_roundw
        case rel => exact ⟨k + 1, _, by omega, by go_num, HOB.out.below (below_drewN (Below.refl _ _) _), hbl, HF.out, HB2.drewN _⟩
        case measure => simp [intOf]; omega
      · have HB3 := HB2.drewN nn
        have hs0 := HB3.cell 0 (v := .int .i64 r) rfl
        have hs1 := HB3.cell 1 (v := .int .i64 cc) rfl
        have hs2 := HB3.cell 2 (v := .slice p n c) rfl
        have hs3 := HB3.cell 3 (v := .int .i64 sm) rfl
        have hs4 := HB3.cell 4 (v := .slice q m d) rfl
        go_wp2_with fail
        refine (HC.out _ k (by omega) (by omega) HB3.below).mono ?_
        rintro e w4 ⟨rfl, hb4⟩
        have HB4 := HB3.step hb4
        cases hcan : decideB l all part (k : Int)
        · have HF : Hid (bestG (fun k => decideB l all part k) (k + 1) (M - (k + 1)) b = bestL (fun k => decideB l all part k) n) := by
            show _ = _; rw [← HR.out, HG.out, hsh, hcan]; rfl
          go_wp2_with fail
          go_roundw
          case rel => exact ⟨k + 1, _, by omega, by go_num, (HOB.out.below (below_drewN (Below.refl _ _) _)).below hb4, hbl, HF.out, HB4⟩
          case measure => simp [intOf]; omega
        · have HF : Hid (bestG (fun k => decideB l all part k) (k + 1) (M - (k + 1)) (bitsL k) = bestL (fun k => decideB l all part k) n) := by
            show _ = _; rw [← HR.out, HG.out, hsh, hcan]; rfl
          go_wp2_with fail
          go_roundw
          case rel => exact ⟨k + 1, _, by omega, by go_num, (HO2.out.below (below_drewN (Below.refl _ _) _)).below hb4, h2l, HF.out, HB4⟩
          case measure => simp [intOf]; omega
    · have HF : Hid (b = bestL (fun k => decideB l all part k) n) := by show _ = _; rw [← HR.out, bestG_end _ _ _ _ hlt]
      go_wp2_with fail
      go_ret
      exact ⟨_, rfl, HF.out ▸ ho, HB.below⟩
end Go.Proofs.Ytlicijnaacdceaa
