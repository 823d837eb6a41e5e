/- The laws' helpers and the reference: Thin, fault, ready, ints; the truth with a number, whether a truth is one. No condition. -/
import Derived.Test.YtfnefkenheglhaaA5
import Derived.Test.YtfnefkenheglhaaA6
namespace Go.Proofs.Ytfnefkenheglhaa
open Go.RowKit

theorem below_of_drewN {w w' : World} (h : ∃ n, w' = w.drewN n) : Below w.heap.size w w' := by
  obtain ⟨n, rfl⟩ := h
  exact below_drewN (Below.refl _ _) n

set_option maxRecDepth 20000 in
set_option maxHeartbeats 1000000 in
theorem ints_any (p : Option Addr) (n c : Nat) (l : List Int) (q : Option Addr) (m d : Nat) (h : List Int) (w : World) (hl : IntsAt w p n l) (hh : IntsAt w q m h) (hn : n ≤ 1000000) (hm : m ≤ 1000000) :
    Calls Try.prog 32 #[.slice p n c, .slice q m d] w fun e w' => e = .returned (.bool (decide (l = h))) ∧ Below w.heap.size w w' := by
  have HL := hid hl
  have HH := hid hh
  clear hl hh
  by_cases hnm : n = m
  · subst hnm
    go_enter Try.func32, Try.ntmps32
    go_wp2
    go_loopw [5] (fun i wr => ∃ (k : Nat), k ≤ n ∧ i = .int .i64 k ∧ decide (l.drop k = h.drop k) = decide (l = h) ∧ Below w.heap.size w wr) (fun i _ => n - (intOf i).toNat)
    case atStart => exact ⟨0, Nat.zero_le _, rfl, rfl, Below.refl _ _⟩
    case round =>
      obtain ⟨k, hk, rfl, hr, hw⟩ := hrel
      have HR := hid hr
      clear hr
      by_cases h1 : k < n
      · obtain ⟨b1, o1, rfl, hb1, hc1⟩ := (HL.out.below hw).at h1
        obtain ⟨b2, o2, rfl, hb2, hc2⟩ := (HH.out.below hw).at h1
        have HD := hid (drop_at l k (by have := HL.out.1; omega))
        have HD' := hid (drop_at h k (by have := HH.out.1; omega))
        by_cases hx : l[k]?.getD 0 = h[k]?.getD 0
        · have hx' : (l[k]?.getD 0 != h[k]?.getD 0) = false := by simp [hx]
          have HF : Hid (decide (l.drop (k + 1) = h.drop (k + 1)) = decide (l = h)) := by show _ = _; rw [← HR.out, HD.out, HD'.out]; simp [hx]
          clear hx
          go_wp2
          go_quiet (fail)
          go_wp2
          go_roundw
          case rel => exact ⟨k + 1, by omega, by go_num, HF.out, below_drewN hw _⟩
          case measure => simp [intOf]; omega
        · have hx' : (l[k]?.getD 0 != h[k]?.getD 0) = true := by simp [hx]
          have HF : Hid (decide (l = h) = false) := by show _ = _; rw [← HR.out, HD.out, HD'.out]; simp [hx]
          clear hx
          go_wp2
          go_quiet (fail)
          go_wp2
          go_ret
          exact ⟨ret_bool HF.out.symm, below_drewN hw _⟩
      · have HF : Hid (decide (l = h) = true) := by
          show _ = _
          rw [← HR.out, List.drop_of_length_le (by have := HL.out.1; omega), List.drop_of_length_le (by have := HH.out.1; omega)]; rfl
        go_wp2
        go_ret
        exact ⟨ret_bool HF.out.symm, hw⟩
  · have b' : ((n : Int) != m) = true := by simp; omega
    have HF : Hid (decide (l = h) = false) := by
      show _ = _
      have h1 := HL.out.1; have h2 := HH.out.1
      simp only [decide_eq_false_iff_not]
      rintro rfl
      omega
    go_enter Try.func32, Try.ntmps32
    go_wp2
    go_ret
    exact ⟨ret_bool HF.out.symm, Below.refl _ _⟩

set_option maxRecDepth 20000 in
set_option maxHeartbeats 1000000 in
theorem faultL_any (s : Sto) (p : Option Addr) (n c : Nat) (w : World) (hcs : CrdsAt w p n s.cards) :
    Calls Try.prog 23 #[.agg #[.int .i64 s.wide, .int .i64 s.high, .int .i64 s.fall, .int .i64 s.a.lo, .int .i64 s.a.hi, .int .i64 s.b.lo, .int .i64 s.b.hi, .int .i64 s.half.lo, .int .i64 s.half.hi, .int .i64 s.peak.lo, .int .i64 s.peak.hi, .slice p n c]] w fun e w' => e = .returned (.int .i64 (faultS s)) ∧ Below w.heap.size w w' := by
  have HC := hid (fun W (hW : Below w.heap.size w W) => fault_any s p n c W (hcs.below hW))
  clear hcs
  go_enter Try.func23, Try.ntmps23
  go_wp2_with fail
  (with_reducible refine (HC.out _ ?_).mono ?_)
  · exact (Below.refl _ _).alloc (Nat.le_refl _) _
  rintro e w1 ⟨rfl, hb⟩
  have HB : Boxed1 w #[.int .i64 s.wide, .int .i64 s.high, .int .i64 s.fall, .int .i64 s.a.lo, .int .i64 s.a.hi, .int .i64 s.b.lo, .int .i64 s.b.hi, .int .i64 s.half.lo, .int .i64 s.half.hi, .int .i64 s.peak.lo, .int .i64 s.peak.hi, .slice p n c] 26 w1 := hb.mono (by simp)
  go_wp2_with fail
  go_ret
  exact ⟨rfl, HB.below⟩

def thinB (s : Sto) : Bool := decide (s.cards.length ≤ 9) && (decide (faultS s ≠ 0) || decide (manyS s ≤ 300))
theorem fault_cases (s : Sto) : faultS s = 0 ∨ faultS s = 1 ∨ faultS s = 3 := by unfold faultS; split <;> (try split) <;> (try split) <;> simp

set_option maxRecDepth 20000 in
set_option maxHeartbeats 1000000 in
theorem thin_any (s : Sto) (p : Option Addr) (n c : Nat) (w : World) (hcs : CrdsAt w p n s.cards) :
    Calls Try.prog 17 #[.agg #[.int .i64 s.wide, .int .i64 s.high, .int .i64 s.fall, .int .i64 s.a.lo, .int .i64 s.a.hi, .int .i64 s.b.lo, .int .i64 s.b.hi, .int .i64 s.half.lo, .int .i64 s.half.hi, .int .i64 s.peak.lo, .int .i64 s.peak.hi, .slice p n c]] w fun e w' => e = .returned (.bool (thinB s)) ∧ Below w.heap.size w w' := by
  have HC := hid (fun W (hW : Below w.heap.size w W) => fault_any s p n c W (hcs.below hW))
  have HN := hid hcs.1
  have HF := hid (show thinB s = (decide (s.cards.length ≤ 9) && (decide (faultS s ≠ 0) || decide (manyS s ≤ 300))) from rfl)
  clear hcs
  by_cases h9 : n ≤ 9
  · by_cases h0 : faultS s = 0
    · have ok := fault_iff.1 h0
      have HM := hid (fun W => many_any s p n c W ok.ranges ok.h12)
      clear ok
      have HF2 : Hid (thinB s = decide (manyS s ≤ 300)) := by show _ = _; rw [HF.out, h0, ← HN.out]; simp [h9]
      go_enter Try.func17, Try.ntmps17
      go_wp2_with fail
      (with_reducible refine (HC.out _ ?_).mono ?_)
      · exact (Below.refl _ _).alloc (Nat.le_refl _) _
      rintro e w1 ⟨rfl, hb⟩
      have HB : Boxed1 w #[.int .i64 s.wide, .int .i64 s.high, .int .i64 s.fall, .int .i64 s.a.lo, .int .i64 s.a.hi, .int .i64 s.b.lo, .int .i64 s.b.hi, .int .i64 s.half.lo, .int .i64 s.half.hi, .int .i64 s.peak.lo, .int .i64 s.peak.hi, .slice p n c] 26 w1 := hb.mono (by simp)
      clear hb
      rw [h0]
      have k0 := (StoAt.of HB.cell).c0
      have k1 := (StoAt.of HB.cell).c1
      have k2 := (StoAt.of HB.cell).c2
      have k3 := (StoAt.of HB.cell).c3
      have k4 := (StoAt.of HB.cell).c4
      have k5 := (StoAt.of HB.cell).c5
      have k6 := (StoAt.of HB.cell).c6
      have k7 := (StoAt.of HB.cell).c7
      have k8 := (StoAt.of HB.cell).c8
      have k9 := (StoAt.of HB.cell).c9
      have k10 := (StoAt.of HB.cell).c10
      have k11 := (StoAt.of HB.cell).c11
      go_wp2_with fail
      (with_reducible refine (HM.out _).mono ?_)
      rintro e w2 ⟨rfl, hb⟩
      have HB2 := HB.step hb
      go_wp2_with fail
      go_ret
      exact ⟨ret_bool HF2.out.symm, HB2.below⟩
    · have HF2 : Hid (thinB s = true) := by show _ = _; rw [HF.out, ← HN.out]; simp [h9, h0]
      have h0' : (faultS s != 0) = true := by simp [h0]
      have HH0 := hid h0
      clear h0
      go_enter Try.func17, Try.ntmps17
      go_wp2_with fail
      (with_reducible refine (HC.out _ ?_).mono ?_)
      · exact (Below.refl _ _).alloc (Nat.le_refl _) _
      rintro e w1 ⟨rfl, hb⟩
      have HB : Boxed1 w #[.int .i64 s.wide, .int .i64 s.high, .int .i64 s.fall, .int .i64 s.a.lo, .int .i64 s.a.hi, .int .i64 s.b.lo, .int .i64 s.b.hi, .int .i64 s.half.lo, .int .i64 s.half.hi, .int .i64 s.peak.lo, .int .i64 s.peak.hi, .slice p n c] 26 w1 := hb.mono (by simp)
      clear hb
      go_wp2_with fail
      go_ret
      exact ⟨ret_bool HF2.out.symm, HB.below⟩
  · have HF2 : Hid (thinB s = false) := by show _ = _; rw [HF.out, ← HN.out]; simp [h9]
    go_enter Try.func17, Try.ntmps17
    go_wp2_with fail
    go_ret
    exact ⟨ret_bool HF2.out.symm, (Below.refl _ _).alloc (Nat.le_refl _) _⟩

def readyB (s : Sto) : Bool := thinB s && decide (faultS s = 0)
theorem ready_iff {s : Sto} : readyB s = true ↔ OkS s ∧ manyS s ≤ 300 := by
  simp only [readyB, thinB, Bool.and_eq_true, Bool.or_eq_true, decide_eq_true_eq]
  constructor
  · rintro ⟨⟨_, h | h⟩, h0⟩
    · exact absurd h0 h
    · exact ⟨fault_iff.1 h0, h⟩
  · rintro ⟨h, h2⟩; exact ⟨⟨by have := h.n6; omega, .inr h2⟩, fault_iff.2 h⟩

set_option maxRecDepth 20000 in
set_option maxHeartbeats 1000000 in
theorem ready_any (s : Sto) (p : Option Addr) (n c : Nat) (w : World) (hcs : CrdsAt w p n s.cards) :
    Calls Try.prog 36 #[.agg #[.int .i64 s.wide, .int .i64 s.high, .int .i64 s.fall, .int .i64 s.a.lo, .int .i64 s.a.hi, .int .i64 s.b.lo, .int .i64 s.b.hi, .int .i64 s.half.lo, .int .i64 s.half.hi, .int .i64 s.peak.lo, .int .i64 s.peak.hi, .slice p n c]] w fun e w' => e = .returned (.bool (readyB s)) ∧ Below w.heap.size w w' := by
  have HC := hid (fun W (hW : Below w.heap.size w W) => fault_any s p n c W (hcs.below hW))
  have HT := hid (fun W (hW : Below w.heap.size w W) => thin_any s p n c W (hcs.below hW))
  have HF := hid (show readyB s = (thinB s && decide (faultS s = 0)) from rfl)
  clear hcs
  go_enter Try.func36, Try.ntmps36
  go_wp2_with fail
  (with_reducible refine (HT.out _ ?_).mono ?_)
  · exact (Below.refl _ _).alloc (Nat.le_refl _) _
  rintro e w1 ⟨rfl, hb⟩
  have HB : Boxed1 w #[.int .i64 s.wide, .int .i64 s.high, .int .i64 s.fall, .int .i64 s.a.lo, .int .i64 s.a.hi, .int .i64 s.b.lo, .int .i64 s.b.hi, .int .i64 s.half.lo, .int .i64 s.half.hi, .int .i64 s.peak.lo, .int .i64 s.peak.hi, .slice p n c] 26 w1 := hb.mono (by simp)
  clear hb
  have k0 := (StoAt.of HB.cell).c0
  have k1 := (StoAt.of HB.cell).c1
  have k2 := (StoAt.of HB.cell).c2
  have k3 := (StoAt.of HB.cell).c3
  have k4 := (StoAt.of HB.cell).c4
  have k5 := (StoAt.of HB.cell).c5
  have k6 := (StoAt.of HB.cell).c6
  have k7 := (StoAt.of HB.cell).c7
  have k8 := (StoAt.of HB.cell).c8
  have k9 := (StoAt.of HB.cell).c9
  have k10 := (StoAt.of HB.cell).c10
  have k11 := (StoAt.of HB.cell).c11
  cases h1 : thinB s
  · go_wp2_with fail
    go_ret
    exact ⟨ret_bool (by rw [HF.out, h1]; rfl), HB.below⟩
  · go_wp2_with fail
    (with_reducible refine (HC.out _ HB.below).mono ?_)
    rintro e w2 ⟨rfl, hb⟩
    have HB2 := HB.step hb
    go_wp2_with fail
    all_goals
      go_ret
      exact ⟨ret_bool (by rw [HF.out, h1, Bool.true_and, Bool.eq_iff_iff]; simp), HB2.below⟩

theorem nth_bd {s : Sto} (hr : rangesB s = true) (h12 : s.high ≤ 12) {m : Int} (h0 : 0 ≤ m) : 0 ≤ m % s.a.cnt ∧ m % s.a.cnt ≤ 12 ∧ 0 ≤ m / s.a.cnt ∧ m / s.a.cnt ≤ m ∧ 0 ≤ m / s.a.cnt % s.b.cnt ∧ m / s.a.cnt % s.b.cnt ≤ 12 ∧ 0 ≤ m / s.a.cnt / s.b.cnt ∧ m / s.a.cnt / s.b.cnt ≤ m ∧
    0 ≤ m / s.a.cnt / s.b.cnt % s.half.cnt ∧ m / s.a.cnt / s.b.cnt % s.half.cnt ≤ 12 ∧ 0 ≤ m / s.a.cnt / s.b.cnt / s.half.cnt ∧ m / s.a.cnt / s.b.cnt / s.half.cnt ≤ m := by
  obtain ⟨a0, a1, b0, b1, d0, d1, p0, p1⟩ := many_bd hr h12
  have x1 := Int.emod_nonneg m (b := s.a.cnt) (by omega); have y1 := Int.emod_lt_of_pos m (b := s.a.cnt) (by omega)
  have z1 := Int.ediv_nonneg h0 (show 0 ≤ s.a.cnt by omega); have v1 := Int.ediv_le_self s.a.cnt h0
  have x2 := Int.emod_nonneg (m / s.a.cnt) (b := s.b.cnt) (by omega); have y2 := Int.emod_lt_of_pos (m / s.a.cnt) (b := s.b.cnt) (by omega)
  have z2 := Int.ediv_nonneg z1 (show 0 ≤ s.b.cnt by omega); have v2 := Int.ediv_le_self s.b.cnt z1
  have x3 := Int.emod_nonneg (m / s.a.cnt / s.b.cnt) (b := s.half.cnt) (by omega); have y3 := Int.emod_lt_of_pos (m / s.a.cnt / s.b.cnt) (b := s.half.cnt) (by omega)
  have z3 := Int.ediv_nonneg z2 (show 0 ≤ s.half.cnt by omega); have v3 := Int.ediv_le_self s.half.cnt z2
  omega
end Go.Proofs.Ytfnefkenheglhaa
