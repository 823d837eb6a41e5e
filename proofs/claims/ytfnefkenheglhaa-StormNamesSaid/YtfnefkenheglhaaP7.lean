/- Package storm: what is asked of a storm, or the error. No condition. -/
import Derived.Test.YtfnefkenheglhaaP6
namespace Go.Proofs.Ytfnefkenheglhaa
open Go.RowKit

/-- The error of a question, whose own condition is met or not. -/
def sureE (s : Sto) (fine : Bool) : Int := if faultS s = 0 then (if fine = true then (if truthL s = [] then 11 else 0) else 2) else faultS s
def sureL (s : Sto) (fine : Bool) : List Tru := if sureE s fine = 0 then truthL s else []
def AskedPost (s : Sto) (fine : Bool) (w : World) : Ending → World → Prop := fun e w' =>
  ∃ pw v, e = .returned (.tuple #[pw, v, .int .i64 (sureE s fine)]) ∧ OwnRows cellsT 4 94 w' w.heap.size v (sureL s fine) ∧ Below w.heap.size w w'
theorem ret_tup3 {a b : Value} {k : IntKind} {x y : Int} (h : x = y) : Ending.returned (.tuple #[a, b, .int k x]) = .returned (.tuple #[a, b, .int k y]) := by rw [h]
theorem sureL_nil {s : Sto} {fine : Bool} (h : sureE s fine ≠ 0) : sureL s fine = [] := by rw [sureL, if_neg h]
theorem truth_len {s : Sto} (ok : OkS s) : (truthL s).length ≤ 2000 := Nat.le_trans (List.length_filter_le _ _) (poss_len ok)

set_option maxRecDepth 40000 in
set_option maxHeartbeats 4000000 in
theorem asked77_any (s : Sto) (p : Option Addr) (n c : Nat) (fine : Bool) (w : World) (hcs : CrdsAt w p n s.cards) (hf : faultS s = 0 → ∀ W, Below w.heap.size w W → Calls Try.prog 77 #[] W fun e w' => e = .returned (.bool fine) ∧ Below W.heap.size W w') :
    Calls Try.prog 72 #[.agg #[.int .i64 s.wide, .int .i64 s.high, .int .i64 s.fall, .int .i64 s.a.lo, .int .i64 s.a.hi, .int .i64 s.b.lo, .int .i64 s.b.hi, .int .i64 s.half.lo, .int .i64 s.half.hi, .int .i64 s.peak.lo, .int .i64 s.peak.hi, .slice p n c], .func (.func 77) #[] #[]] w (AskedPost s fine w) := by
  have HC := hid (fun W (hW : Below w.heap.size w W) => checkStorm_any s p n c W (hcs.below hW))
  have HCS := hid hcs
  have HF := hid hf
  clear hcs hf
  go_enter Try.func72, Try.ntmps72
  go_wp2_with fail
  (with_reducible refine (HC.out _ ?_).mono ?_)
  · exact (Below.refl _ _).alloc (Nat.le_refl _) _
  rintro e w1 ⟨rfl, hb⟩
  have HB : Boxed1 w #[.int .i64 s.wide, .int .i64 s.high, .int .i64 s.fall, .int .i64 s.a.lo, .int .i64 s.a.hi, .int .i64 s.b.lo, .int .i64 s.b.hi, .int .i64 s.half.lo, .int .i64 s.half.hi, .int .i64 s.peak.lo, .int .i64 s.peak.hi, .slice p n c] 35 w1 := hb.mono (by simp)
  clear hb
  by_cases h0 : faultS s = 0
  · have HFF := hid (HF.out h0)
    have HOK := hid (fault_iff.1 h0)
    rw [h0]
    have H0 := hid h0
    clear h0
    go_wp2_with fail
    (with_reducible refine (HFF.out _ HB.below).mono ?_)
    rintro e w2 ⟨rfl, hb⟩
    have HB2 := HB.step hb
    clear hb
    cases hfi : fine
    · have HE : Hid (sureE s fine = 2) := by show _ = _; rw [sureE, hfi, if_pos H0.out]; rfl
      clear hfi
      go_wp2_with fail
      go_ret3
      exact ⟨_, _, ret_tup3 HE.out.symm, by rw [sureL_nil (by rw [HE.out]; decide)]; exact ownRows_nil _ _ _ _ _, HB2.below⟩
    · have HFI := hid hfi
      clear hfi
      have k0 := (StoAt.of HB2.cell).c0
      have k1 := (StoAt.of HB2.cell).c1
      have k2 := (StoAt.of HB2.cell).c2
      have k3 := (StoAt.of HB2.cell).c3
      have k4 := (StoAt.of HB2.cell).c4
      have k5 := (StoAt.of HB2.cell).c5
      have k6 := (StoAt.of HB2.cell).c6
      have k7 := (StoAt.of HB2.cell).c7
      have k8 := (StoAt.of HB2.cell).c8
      have k9 := (StoAt.of HB2.cell).c9
      have k10 := (StoAt.of HB2.cell).c10
      have k11 := (StoAt.of HB2.cell).c11
      go_wp2_with fail
      (with_reducible refine (work_any _ _ _ _ _).mono ?_)
      rintro e w3 ⟨rfl, hwk, hmp, hz3, hb⟩
      have HB3 := HB2.step hb
      have HZ3 := hid hz3
      have HWK : Hid (WK s p n c (w2.heap.size + 2) (w2.heap.size + 1) 0 w3 w3) := ⟨Near.refl _ _, hwk, _, hmp, fun t v h => by cases h⟩
      have hz2 := HB2.size
      have HPB : Hid (∀ a, p = some a → 0 < n → a.block ≠ w2.heap.size + 1) := fun a ha hn => by
        obtain ⟨_, _, b1, o1, e1, hlt, _⟩ := HCS.out.at hn
        rw [ha] at e1; cases e1
        show b1 ≠ _
        omega
      clear k0 k1 k2 k3 k4 k5 k6 k7 k8 k9 k10 k11 hb hwk hmp hz3
      go_wp2_with fail
      refine (truthsP_any s p n c _ _ w3 HWK.out (HCS.out.below HB3.below) HPB.out HOK.out (by have := HZ3.out; omega) (by have := HZ3.out; omega) (by omega)).mono ?_
      rintro e w4 ⟨v, rfl, hown, nn, _, hwk4⟩
      have HB4 : Hid (Below w.heap.size w w4) := HB3.below.trans (hwk4.1.below (by have := HB3.size; omega) (fun k hk hh => by omega))
      have hown2 : OwnRows cellsT 4 94 w4 w.heap.size v (truthL s) := hown.mono (by have := HB3.size; omega)
      have HO := hid hown2
      obtain ⟨p', c', rfl, _⟩ := hown2.slice cellsT_len
      clear hown hown2 hwk4 hz2
      by_cases hn : truthL s = []
      · have HE : Hid (sureE s fine = 11) := by show _ = _; rw [sureE, HFI.out, if_pos H0.out, if_pos rfl, if_pos hn]
        have hl : (truthL s).length = 0 := by rw [hn]; rfl
        rw [hl]
        clear hn hl
        go_wp2_with fail
        go_ret3
        exact ⟨_, _, ret_tup3 HE.out.symm, by rw [sureL_nil (by rw [HE.out]; decide)]; exact ownRows_nil _ _ _ _ _, HB4.out⟩
      · have HE : Hid (sureE s fine = 0) := by show _ = _; rw [sureE, HFI.out, if_pos H0.out, if_pos rfl, if_neg hn]
        have hl : (((truthL s).length : Int) == 0) = false := by
          have : (truthL s).length ≠ 0 := fun h => hn (List.length_eq_zero_iff.1 h)
          simp; omega
        clear hn
        go_wp2_with fail
        go_ret3
        exact ⟨_, _, ret_tup3 HE.out.symm, by rw [sureL, if_pos HE.out]; exact HO.out, HB4.out⟩
  · have HE : Hid (sureE s fine = faultS s) := by show _ = _; rw [sureE, if_neg h0]
    have h0' : (faultS s != 0) = true := by simp [h0]
    have HN := hid h0
    clear h0
    go_wp2_with fail
    go_ret3
    exact ⟨_, _, ret_tup3 HE.out.symm, by rw [sureL_nil (by rw [HE.out]; exact HN.out)]; exact ownRows_nil _ _ _ _ _, HB.below⟩

set_option maxRecDepth 40000 in
set_option maxHeartbeats 4000000 in
theorem asked91_any (s : Sto) (p : Option Addr) (n c : Nat) (b0 b1 : Nat) (fine : Bool) (w : World) (hcs : CrdsAt w p n s.cards) (hf : faultS s = 0 → ∀ W, Below w.heap.size w W → Calls Try.prog 91 #[.pointer (some ⟨b0, 0, none⟩), .pointer (some ⟨b1, 0, none⟩)] W fun e w' => e = .returned (.bool fine) ∧ Below W.heap.size W w') :
    Calls Try.prog 72 #[.agg #[.int .i64 s.wide, .int .i64 s.high, .int .i64 s.fall, .int .i64 s.a.lo, .int .i64 s.a.hi, .int .i64 s.b.lo, .int .i64 s.b.hi, .int .i64 s.half.lo, .int .i64 s.half.hi, .int .i64 s.peak.lo, .int .i64 s.peak.hi, .slice p n c], .func (.func 91) #[] #[.pointer (some ⟨b0, 0, none⟩), .pointer (some ⟨b1, 0, none⟩)]] w (AskedPost s fine w) := by
  have HC := hid (fun W (hW : Below w.heap.size w W) => checkStorm_any s p n c W (hcs.below hW))
  have HCS := hid hcs
  have HF := hid hf
  clear hcs hf
  go_enter Try.func72, Try.ntmps72
  go_wp2_with fail
  (with_reducible refine (HC.out _ ?_).mono ?_)
  · exact (Below.refl _ _).alloc (Nat.le_refl _) _
  rintro e w1 ⟨rfl, hb⟩
  have HB : Boxed1 w #[.int .i64 s.wide, .int .i64 s.high, .int .i64 s.fall, .int .i64 s.a.lo, .int .i64 s.a.hi, .int .i64 s.b.lo, .int .i64 s.b.hi, .int .i64 s.half.lo, .int .i64 s.half.hi, .int .i64 s.peak.lo, .int .i64 s.peak.hi, .slice p n c] 35 w1 := hb.mono (by simp)
  clear hb
  by_cases h0 : faultS s = 0
  · have HFF := hid (HF.out h0)
    have HOK := hid (fault_iff.1 h0)
    rw [h0]
    have H0 := hid h0
    clear h0
    go_wp2_with fail
    (with_reducible refine (HFF.out _ HB.below).mono ?_)
    rintro e w2 ⟨rfl, hb⟩
    have HB2 := HB.step hb
    clear hb
    cases hfi : fine
    · have HE : Hid (sureE s fine = 2) := by show _ = _; rw [sureE, hfi, if_pos H0.out]; rfl
      clear hfi
      go_wp2_with fail
      go_ret3
      exact ⟨_, _, ret_tup3 HE.out.symm, by rw [sureL_nil (by rw [HE.out]; decide)]; exact ownRows_nil _ _ _ _ _, HB2.below⟩
    · have HFI := hid hfi
      clear hfi
      have k0 := (StoAt.of HB2.cell).c0
      have k1 := (StoAt.of HB2.cell).c1
      have k2 := (StoAt.of HB2.cell).c2
      have k3 := (StoAt.of HB2.cell).c3
      have k4 := (StoAt.of HB2.cell).c4
      have k5 := (StoAt.of HB2.cell).c5
      have k6 := (StoAt.of HB2.cell).c6
      have k7 := (StoAt.of HB2.cell).c7
      have k8 := (StoAt.of HB2.cell).c8
      have k9 := (StoAt.of HB2.cell).c9
      have k10 := (StoAt.of HB2.cell).c10
      have k11 := (StoAt.of HB2.cell).c11
      go_wp2_with fail
      (with_reducible refine (work_any _ _ _ _ _).mono ?_)
      rintro e w3 ⟨rfl, hwk, hmp, hz3, hb⟩
      have HB3 := HB2.step hb
      have HZ3 := hid hz3
      have HWK : Hid (WK s p n c (w2.heap.size + 2) (w2.heap.size + 1) 0 w3 w3) := ⟨Near.refl _ _, hwk, _, hmp, fun t v h => by cases h⟩
      have hz2 := HB2.size
      have HPB : Hid (∀ a, p = some a → 0 < n → a.block ≠ w2.heap.size + 1) := fun a ha hn => by
        obtain ⟨_, _, b1, o1, e1, hlt, _⟩ := HCS.out.at hn
        rw [ha] at e1; cases e1
        show b1 ≠ _
        omega
      clear k0 k1 k2 k3 k4 k5 k6 k7 k8 k9 k10 k11 hb hwk hmp hz3
      go_wp2_with fail
      refine (truthsP_any s p n c _ _ w3 HWK.out (HCS.out.below HB3.below) HPB.out HOK.out (by have := HZ3.out; omega) (by have := HZ3.out; omega) (by omega)).mono ?_
      rintro e w4 ⟨v, rfl, hown, nn, _, hwk4⟩
      have HB4 : Hid (Below w.heap.size w w4) := HB3.below.trans (hwk4.1.below (by have := HB3.size; omega) (fun k hk hh => by omega))
      have hown2 : OwnRows cellsT 4 94 w4 w.heap.size v (truthL s) := hown.mono (by have := HB3.size; omega)
      have HO := hid hown2
      obtain ⟨p', c', rfl, _⟩ := hown2.slice cellsT_len
      clear hown hown2 hwk4 hz2
      by_cases hn : truthL s = []
      · have HE : Hid (sureE s fine = 11) := by show _ = _; rw [sureE, HFI.out, if_pos H0.out, if_pos rfl, if_pos hn]
        have hl : (truthL s).length = 0 := by rw [hn]; rfl
        rw [hl]
        clear hn hl
        go_wp2_with fail
        go_ret3
        exact ⟨_, _, ret_tup3 HE.out.symm, by rw [sureL_nil (by rw [HE.out]; decide)]; exact ownRows_nil _ _ _ _ _, HB4.out⟩
      · have HE : Hid (sureE s fine = 0) := by show _ = _; rw [sureE, HFI.out, if_pos H0.out, if_pos rfl, if_neg hn]
        have hl : (((truthL s).length : Int) == 0) = false := by
          have : (truthL s).length ≠ 0 := fun h => hn (List.length_eq_zero_iff.1 h)
          simp; omega
        clear hn
        go_wp2_with fail
        go_ret3
        exact ⟨_, _, ret_tup3 HE.out.symm, by rw [sureL, if_pos HE.out]; exact HO.out, HB4.out⟩
  · have HE : Hid (sureE s fine = faultS s) := by show _ = _; rw [sureE, if_neg h0]
    have h0' : (faultS s != 0) = true := by simp [h0]
    have HN := hid h0
    clear h0
    go_wp2_with fail
    go_ret3
    exact ⟨_, _, ret_tup3 HE.out.symm, by rw [sureL_nil (by rw [HE.out]; exact HN.out)]; exact ownRows_nil _ _ _ _ _, HB.below⟩

set_option maxRecDepth 40000 in
set_option maxHeartbeats 4000000 in
theorem asked107_any (s : Sto) (p : Option Addr) (n c : Nat) (b0 b1 : Nat) (fine : Bool) (w : World) (hcs : CrdsAt w p n s.cards) (hf : faultS s = 0 → ∀ W, Below w.heap.size w W → Calls Try.prog 107 #[.pointer (some ⟨b0, 0, none⟩), .pointer (some ⟨b1, 0, none⟩)] W fun e w' => e = .returned (.bool fine) ∧ Below W.heap.size W w') :
    Calls Try.prog 72 #[.agg #[.int .i64 s.wide, .int .i64 s.high, .int .i64 s.fall, .int .i64 s.a.lo, .int .i64 s.a.hi, .int .i64 s.b.lo, .int .i64 s.b.hi, .int .i64 s.half.lo, .int .i64 s.half.hi, .int .i64 s.peak.lo, .int .i64 s.peak.hi, .slice p n c], .func (.func 107) #[] #[.pointer (some ⟨b0, 0, none⟩), .pointer (some ⟨b1, 0, none⟩)]] w (AskedPost s fine w) := by
  have HC := hid (fun W (hW : Below w.heap.size w W) => checkStorm_any s p n c W (hcs.below hW))
  have HCS := hid hcs
  have HF := hid hf
  clear hcs hf
  go_enter Try.func72, Try.ntmps72
  go_wp2_with fail
  (with_reducible refine (HC.out _ ?_).mono ?_)
  · exact (Below.refl _ _).alloc (Nat.le_refl _) _
  rintro e w1 ⟨rfl, hb⟩
  have HB : Boxed1 w #[.int .i64 s.wide, .int .i64 s.high, .int .i64 s.fall, .int .i64 s.a.lo, .int .i64 s.a.hi, .int .i64 s.b.lo, .int .i64 s.b.hi, .int .i64 s.half.lo, .int .i64 s.half.hi, .int .i64 s.peak.lo, .int .i64 s.peak.hi, .slice p n c] 35 w1 := hb.mono (by simp)
  clear hb
  by_cases h0 : faultS s = 0
  · have HFF := hid (HF.out h0)
    have HOK := hid (fault_iff.1 h0)
    rw [h0]
    have H0 := hid h0
    clear h0
    go_wp2_with fail
    (with_reducible refine (HFF.out _ HB.below).mono ?_)
    rintro e w2 ⟨rfl, hb⟩
    have HB2 := HB.step hb
    clear hb
    cases hfi : fine
    · have HE : Hid (sureE s fine = 2) := by show _ = _; rw [sureE, hfi, if_pos H0.out]; rfl
      clear hfi
      go_wp2_with fail
      go_ret3
      exact ⟨_, _, ret_tup3 HE.out.symm, by rw [sureL_nil (by rw [HE.out]; decide)]; exact ownRows_nil _ _ _ _ _, HB2.below⟩
    · have HFI := hid hfi
      clear hfi
      have k0 := (StoAt.of HB2.cell).c0
      have k1 := (StoAt.of HB2.cell).c1
      have k2 := (StoAt.of HB2.cell).c2
      have k3 := (StoAt.of HB2.cell).c3
      have k4 := (StoAt.of HB2.cell).c4
      have k5 := (StoAt.of HB2.cell).c5
      have k6 := (StoAt.of HB2.cell).c6
      have k7 := (StoAt.of HB2.cell).c7
      have k8 := (StoAt.of HB2.cell).c8
      have k9 := (StoAt.of HB2.cell).c9
      have k10 := (StoAt.of HB2.cell).c10
      have k11 := (StoAt.of HB2.cell).c11
      go_wp2_with fail
      (with_reducible refine (work_any _ _ _ _ _).mono ?_)
      rintro e w3 ⟨rfl, hwk, hmp, hz3, hb⟩
      have HB3 := HB2.step hb
      have HZ3 := hid hz3
      have HWK : Hid (WK s p n c (w2.heap.size + 2) (w2.heap.size + 1) 0 w3 w3) := ⟨Near.refl _ _, hwk, _, hmp, fun t v h => by cases h⟩
      have hz2 := HB2.size
      have HPB : Hid (∀ a, p = some a → 0 < n → a.block ≠ w2.heap.size + 1) := fun a ha hn => by
        obtain ⟨_, _, b1, o1, e1, hlt, _⟩ := HCS.out.at hn
        rw [ha] at e1; cases e1
        show b1 ≠ _
        omega
      clear k0 k1 k2 k3 k4 k5 k6 k7 k8 k9 k10 k11 hb hwk hmp hz3
      go_wp2_with fail
      refine (truthsP_any s p n c _ _ w3 HWK.out (HCS.out.below HB3.below) HPB.out HOK.out (by have := HZ3.out; omega) (by have := HZ3.out; omega) (by omega)).mono ?_
      rintro e w4 ⟨v, rfl, hown, nn, _, hwk4⟩
      have HB4 : Hid (Below w.heap.size w w4) := HB3.below.trans (hwk4.1.below (by have := HB3.size; omega) (fun k hk hh => by omega))
      have hown2 : OwnRows cellsT 4 94 w4 w.heap.size v (truthL s) := hown.mono (by have := HB3.size; omega)
      have HO := hid hown2
      obtain ⟨p', c', rfl, _⟩ := hown2.slice cellsT_len
      clear hown hown2 hwk4 hz2
      by_cases hn : truthL s = []
      · have HE : Hid (sureE s fine = 11) := by show _ = _; rw [sureE, HFI.out, if_pos H0.out, if_pos rfl, if_pos hn]
        have hl : (truthL s).length = 0 := by rw [hn]; rfl
        rw [hl]
        clear hn hl
        go_wp2_with fail
        go_ret3
        exact ⟨_, _, ret_tup3 HE.out.symm, by rw [sureL_nil (by rw [HE.out]; decide)]; exact ownRows_nil _ _ _ _ _, HB4.out⟩
      · have HE : Hid (sureE s fine = 0) := by show _ = _; rw [sureE, HFI.out, if_pos H0.out, if_pos rfl, if_neg hn]
        have hl : (((truthL s).length : Int) == 0) = false := by
          have : (truthL s).length ≠ 0 := fun h => hn (List.length_eq_zero_iff.1 h)
          simp; omega
        clear hn
        go_wp2_with fail
        go_ret3
        exact ⟨_, _, ret_tup3 HE.out.symm, by rw [sureL, if_pos HE.out]; exact HO.out, HB4.out⟩
  · have HE : Hid (sureE s fine = faultS s) := by show _ = _; rw [sureE, if_neg h0]
    have h0' : (faultS s != 0) = true := by simp [h0]
    have HN := hid h0
    clear h0
    go_wp2_with fail
    go_ret3
    exact ⟨_, _, ret_tup3 HE.out.symm, by rw [sureL_nil (by rw [HE.out]; exact HN.out)]; exact ownRows_nil _ _ _ _ _, HB.below⟩

set_option maxRecDepth 40000 in
set_option maxHeartbeats 4000000 in
theorem asked73_any (s : Sto) (p : Option Addr) (n c : Nat) (b0 b1 b2 : Nat) (fine : Bool) (w : World) (hcs : CrdsAt w p n s.cards) (hf : faultS s = 0 → ∀ W, Below w.heap.size w W → Calls Try.prog 73 #[.pointer (some ⟨b0, 0, none⟩), .pointer (some ⟨b1, 0, none⟩), .pointer (some ⟨b2, 0, none⟩)] W fun e w' => e = .returned (.bool fine) ∧ Below W.heap.size W w') :
    Calls Try.prog 72 #[.agg #[.int .i64 s.wide, .int .i64 s.high, .int .i64 s.fall, .int .i64 s.a.lo, .int .i64 s.a.hi, .int .i64 s.b.lo, .int .i64 s.b.hi, .int .i64 s.half.lo, .int .i64 s.half.hi, .int .i64 s.peak.lo, .int .i64 s.peak.hi, .slice p n c], .func (.func 73) #[] #[.pointer (some ⟨b0, 0, none⟩), .pointer (some ⟨b1, 0, none⟩), .pointer (some ⟨b2, 0, none⟩)]] w (AskedPost s fine w) := by
  have HC := hid (fun W (hW : Below w.heap.size w W) => checkStorm_any s p n c W (hcs.below hW))
  have HCS := hid hcs
  have HF := hid hf
  clear hcs hf
  go_enter Try.func72, Try.ntmps72
  go_wp2_with fail
  (with_reducible refine (HC.out _ ?_).mono ?_)
  · exact (Below.refl _ _).alloc (Nat.le_refl _) _
  rintro e w1 ⟨rfl, hb⟩
  have HB : Boxed1 w #[.int .i64 s.wide, .int .i64 s.high, .int .i64 s.fall, .int .i64 s.a.lo, .int .i64 s.a.hi, .int .i64 s.b.lo, .int .i64 s.b.hi, .int .i64 s.half.lo, .int .i64 s.half.hi, .int .i64 s.peak.lo, .int .i64 s.peak.hi, .slice p n c] 35 w1 := hb.mono (by simp)
  clear hb
  by_cases h0 : faultS s = 0
  · have HFF := hid (HF.out h0)
    have HOK := hid (fault_iff.1 h0)
    rw [h0]
    have H0 := hid h0
    clear h0
    go_wp2_with fail
    (with_reducible refine (HFF.out _ HB.below).mono ?_)
    rintro e w2 ⟨rfl, hb⟩
    have HB2 := HB.step hb
    clear hb
    cases hfi : fine
    · have HE : Hid (sureE s fine = 2) := by show _ = _; rw [sureE, hfi, if_pos H0.out]; rfl
      clear hfi
      go_wp2_with fail
      go_ret3
      exact ⟨_, _, ret_tup3 HE.out.symm, by rw [sureL_nil (by rw [HE.out]; decide)]; exact ownRows_nil _ _ _ _ _, HB2.below⟩
    · have HFI := hid hfi
      clear hfi
      have k0 := (StoAt.of HB2.cell).c0
      have k1 := (StoAt.of HB2.cell).c1
      have k2 := (StoAt.of HB2.cell).c2
      have k3 := (StoAt.of HB2.cell).c3
      have k4 := (StoAt.of HB2.cell).c4
      have k5 := (StoAt.of HB2.cell).c5
      have k6 := (StoAt.of HB2.cell).c6
      have k7 := (StoAt.of HB2.cell).c7
      have k8 := (StoAt.of HB2.cell).c8
      have k9 := (StoAt.of HB2.cell).c9
      have k10 := (StoAt.of HB2.cell).c10
      have k11 := (StoAt.of HB2.cell).c11
      go_wp2_with fail
      (with_reducible refine (work_any _ _ _ _ _).mono ?_)
      rintro e w3 ⟨rfl, hwk, hmp, hz3, hb⟩
      have HB3 := HB2.step hb
      have HZ3 := hid hz3
      have HWK : Hid (WK s p n c (w2.heap.size + 2) (w2.heap.size + 1) 0 w3 w3) := ⟨Near.refl _ _, hwk, _, hmp, fun t v h => by cases h⟩
      have hz2 := HB2.size
      have HPB : Hid (∀ a, p = some a → 0 < n → a.block ≠ w2.heap.size + 1) := fun a ha hn => by
        obtain ⟨_, _, b1, o1, e1, hlt, _⟩ := HCS.out.at hn
        rw [ha] at e1; cases e1
        show b1 ≠ _
        omega
      clear k0 k1 k2 k3 k4 k5 k6 k7 k8 k9 k10 k11 hb hwk hmp hz3
      go_wp2_with fail
      refine (truthsP_any s p n c _ _ w3 HWK.out (HCS.out.below HB3.below) HPB.out HOK.out (by have := HZ3.out; omega) (by have := HZ3.out; omega) (by omega)).mono ?_
      rintro e w4 ⟨v, rfl, hown, nn, _, hwk4⟩
      have HB4 : Hid (Below w.heap.size w w4) := HB3.below.trans (hwk4.1.below (by have := HB3.size; omega) (fun k hk hh => by omega))
      have hown2 : OwnRows cellsT 4 94 w4 w.heap.size v (truthL s) := hown.mono (by have := HB3.size; omega)
      have HO := hid hown2
      obtain ⟨p', c', rfl, _⟩ := hown2.slice cellsT_len
      clear hown hown2 hwk4 hz2
      by_cases hn : truthL s = []
      · have HE : Hid (sureE s fine = 11) := by show _ = _; rw [sureE, HFI.out, if_pos H0.out, if_pos rfl, if_pos hn]
        have hl : (truthL s).length = 0 := by rw [hn]; rfl
        rw [hl]
        clear hn hl
        go_wp2_with fail
        go_ret3
        exact ⟨_, _, ret_tup3 HE.out.symm, by rw [sureL_nil (by rw [HE.out]; decide)]; exact ownRows_nil _ _ _ _ _, HB4.out⟩
      · have HE : Hid (sureE s fine = 0) := by show _ = _; rw [sureE, HFI.out, if_pos H0.out, if_pos rfl, if_neg hn]
        have hl : (((truthL s).length : Int) == 0) = false := by
          have : (truthL s).length ≠ 0 := fun h => hn (List.length_eq_zero_iff.1 h)
          simp; omega
        clear hn
        go_wp2_with fail
        go_ret3
        exact ⟨_, _, ret_tup3 HE.out.symm, by rw [sureL, if_pos HE.out]; exact HO.out, HB4.out⟩
  · have HE : Hid (sureE s fine = faultS s) := by show _ = _; rw [sureE, if_neg h0]
    have h0' : (faultS s != 0) = true := by simp [h0]
    have HN := hid h0
    clear h0
    go_wp2_with fail
    go_ret3
    exact ⟨_, _, ret_tup3 HE.out.symm, by rw [sureL_nil (by rw [HE.out]; exact HN.out)]; exact ownRows_nil _ _ _ _ _, HB.below⟩
end Go.Proofs.Ytfnefkenheglhaa
