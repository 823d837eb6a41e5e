/- Walks over package hailstoneref03, part J: Leave. -/
import Derived.Test.YtlicijnaacdceaaRefH
import Derived.Test.YtlicijnaacdceaaRefG
namespace Go.Proofs.Ytlicijnaacdceaa
open Go.RowKit

/-- The best of best and of the sets k, .., k + m - 1 that are as asked. -/
def bestG (f : Nat → Bool) : Nat → Nat → List Int → List Int
  | _, 0, best => best
  | k, m + 1, best => bestG f (k + 1) m (if (shorterB (bitsL k) best && f k) = true then bitsL k else best)
def bestL (f : Nat → Bool) (n : Nat) : List Int := bestG f 0 (2 ^ n) (bitsL (2 ^ n - 1))

theorem bestG_go (f : Nat → Bool) (k n : Nat) (b : List Int) (h : k < n) : bestG f k (n - k) b = bestG f (k + 1) (n - (k + 1)) (if (shorterB (bitsL k) b && f k) = true then bitsL k else b) := by
  have e : n - k = (n - (k + 1)) + 1 := by omega
  rw [e]; rfl

theorem bestG_end (f : Nat → Bool) (k n : Nat) (b : List Int) (h : ¬ k < n) : bestG f k (n - k) b = b := by
  have e : n - k = 0 := by omega
  rw [e]; rfl

theorem pow_facts {m : Nat} (hm : m ≤ 9) : ∃ M : Nat, 2 ^ m = M ∧ 1 ≤ M ∧ M ≤ 512 ∧ wrap64 (2 ^ m) = (M : Int) := by
  have h1 : 1 ≤ 2 ^ m := Nat.one_le_two_pow
  have h2 : 2 ^ m ≤ 2 ^ 9 := Nat.pow_le_pow_right (by decide) hm
  have h3 : (2 : Int) ^ m = ((2 ^ m : Nat) : Int) := by simp
  refine ⟨2 ^ m, rfl, h1, by simpa using h2, ?_⟩
  rw [h3]
  exact IntWalk.wrap64_in _ (by omega)

set_option maxHeartbeats 4000000 in
set_option maxRecDepth 20000 in
theorem leave_any (r cc : Int) (p : Option Addr) (n c : Nat) (l : List Int) (sm : Int) (q : Option Addr) (m d : Nat) (cs : List Cnt) (w : World) (hl : IntsAt w p n l) (hcs : CntsAt w q m cs) (hok : OkS r cc l sm cs) (hm : m ≤ 9) :
    Calls Try.prog 32 #[.agg #[.int .i64 r, .int .i64 cc, .slice p n c, .int .i64 sm, .slice q m d]] w (RetInts w (bestL (fun k => canB cc l sm cs k) m)) := by
  have HC := hid (fun W (out : Int) (h0 : 0 ≤ out) (h1 : out < 4096) (hW : Below w.heap.size w W) => can_any r cc p n c l sm q m d cs out W (hl.below hW) (hcs.below hW) hok h0 h1)
  obtain ⟨M, hM, hM1, hM2, hM3⟩ := pow_facts hm
  have HBL : Hid (bestL (fun k => canB cc l sm cs k) m = bestG (fun k => canB cc l sm cs k) 0 M (bitsL ((M : Int) - 1))) := by
    have e : (2 : Int) ^ m = ((2 ^ m : Nat) : Int) := by simp
    show _ = _
    unfold bestL
    rw [e, hM]
  clear hl hcs hok hM
  go_enter Try.func32, Try.ntmps32
  go_wp2_with fail
  refine (bits_any _ _ (by omega) (by omega)).mono ?_
  rintro e w1 ⟨v0, rfl, ho0, hb0⟩
  have HB0 : Boxed1 w #[.int .i64 r, .int .i64 cc, .slice p n c, .int .i64 sm, .slice q m d] 27 w1 := hb0.mono (by simp)
  have ho0' := ho0.mono (base' := w.heap.size) (by simp)
  clear ho0 hb0
  go_wp2_with fail
  go_loopw [3, 4] (fun v i wr => ∃ (k : Nat) (b : List Int), k ≤ M ∧ i = .int .i64 k ∧ OwnInts wr w.heap.size v b ∧ b.length ≤ 12 ∧ bestG (fun k => canB cc l sm cs k) k (M - k) b = bestL (fun k => canB cc l sm cs k) m ∧ Boxed1 w #[.int .i64 r, .int .i64 cc, .slice p n c, .int .i64 sm, .slice q m d] 27 wr) (fun _ i _ => M - (intOf i).toNat)
  case atStart => exact ⟨0, _, by omega, rfl, ho0', bitsTo_len _ _, HBL.out.symm, HB0⟩
  case round =>
    clear HB0 ho0'
    obtain ⟨k, b, hk, rfl, ho, hbl, hr, HB⟩ := hrel
    have HR := hid hr
    clear hr
    have hs4 := HB.cell 4 (v := .slice q m d) rfl
    by_cases hlt : k < M
    · have HG := hid (bestG_go (fun k => canB cc l sm cs k) k M b hlt)
      go_wp2_with fail
      refine (bits_any _ _ (by omega) (by omega)).mono ?_
      rintro e w2 ⟨v2, rfl, ho2, hb2⟩
      have HB2 := HB.step hb2
      have hob := ho.below hb2
      have ho2' := ho2.mono (base' := w.heap.size) (by have := HB.size; omega)
      obtain ⟨p1, c1, rfl, hi1⟩ := hob.slice
      obtain ⟨p2, c2, rfl, hi2⟩ := ho2.slice
      have h2l : (bitsL (k : Int)).length ≤ 12 := bitsTo_len _ _
      have HOB := hid hob
      have HO2 := hid ho2'
      have HI1 := hid hi1
      have HI2 := hid hi2
      clear ho ho2 hb2 hob ho2' hi1 hi2 hs4
      go_wp2_with fail
      refine (shorter_any _ _ _ _ _ _ _ _ _ HI2.out HI1.out (by omega) (by omega)).mono ?_
      rintro e w3 ⟨rfl, nn, rfl⟩
      cases hsh : shorterB (bitsL (k : Int)) b
      · have HF : Hid (bestG (fun k => canB cc l sm cs k) (k + 1) (M - (k + 1)) b = bestL (fun k => canB cc l sm cs k) m) := by
          show _ = _; rw [← HR.out, HG.out, hsh]; rfl
        go_wp2_with fail
        go_roundw
        case rel => exact ⟨k + 1, _, by omega, by go_num, HOB.out.below (below_drewN (Below.refl _ _) _), hbl, HF.out, HB2.drewN _⟩
        case measure => simp [intOf]; omega
      · have HB3 := HB2.drewN nn
        have hs0 := HB3.cell 0 (v := .int .i64 r) rfl
        have hs1 := HB3.cell 1 (v := .int .i64 cc) rfl
        have hs2 := HB3.cell 2 (v := .slice p n c) rfl
        have hs3 := HB3.cell 3 (v := .int .i64 sm) rfl
        have hs4 := HB3.cell 4 (v := .slice q m d) rfl
        go_wp2_with fail
        refine (HC.out _ k (by omega) (by omega) HB3.below).mono ?_
        rintro e w4 ⟨rfl, hb4⟩
        have HB4 := HB3.step hb4
        cases hcan : canB cc l sm cs k
        · have HF : Hid (bestG (fun k => canB cc l sm cs k) (k + 1) (M - (k + 1)) b = bestL (fun k => canB cc l sm cs k) m) := by
            show _ = _; rw [← HR.out, HG.out, hsh, hcan]; rfl
          go_wp2_with fail
          go_roundw
          case rel => exact ⟨k + 1, _, by omega, by go_num, (HOB.out.below (below_drewN (Below.refl _ _) _)).below hb4, hbl, HF.out, HB4⟩
          case measure => simp [intOf]; omega
        · have HF : Hid (bestG (fun k => canB cc l sm cs k) (k + 1) (M - (k + 1)) (bitsL k) = bestL (fun k => canB cc l sm cs k) m) := by
            show _ = _; rw [← HR.out, HG.out, hsh, hcan]; rfl
          go_wp2_with fail
          go_roundw
          case rel => exact ⟨k + 1, _, by omega, by go_num, (HO2.out.below (below_drewN (Below.refl _ _) _)).below hb4, h2l, HF.out, HB4⟩
          case measure => simp [intOf]; omega
    · have HF : Hid (b = bestL (fun k => canB cc l sm cs k) m) := by show _ = _; rw [← HR.out, bestG_end _ _ _ _ hlt]
      go_wp2_with fail
      go_ret
      exact ⟨_, rfl, HF.out ▸ ho, HB.below⟩
end Go.Proofs.Ytlicijnaacdceaa
