/- FrameLeaves returns true. -/
import Derived.Test.YtlicijnaacdceaaLawC
import Derived.Test.YtlicijnaacdceaaLawAwake
import Derived.Test.YtlicijnaacdceaaRefJ
import Derived.Test.YtlicijnaacdceaaRefE
namespace Go.Proofs.Ytlicijnaacdceaa
open Go.RowKit

theorem oks_of {r cc : Int} {l : List Int} {sm : Int} {cs : List Cnt} (h : faultL r cc l sm cs = 0) : OkS r cc l sm cs := by
  obtain ⟨h1, h2, h3, h4, h5⟩ := fault0 h
  simp only [inB, Bool.and_eq_true, decide_eq_true_eq] at h3
  refine ⟨h2, h3.1, h3.2, fun c hc => ?_, by omega, h5⟩
  have := List.all_eq_true.1 h4 c hc
  simp only [cntOkB, inB, Bool.and_eq_true, decide_eq_true_eq, Bool.not_eq_true', decide_eq_false_iff_not] at this
  omega

theorem bits_all (m : Nat) (hm : m ≤ 12) : bitsL ((2 ^ m - 1 : Nat) : Int) = allFrom m 0 := by
  refine incr_ext (bitsTo_incr _ 12) (incr_more hm (allFrom_incr m _ 0 rfl)) fun a => ?_
  show a ∈ bitsTo _ 12 ↔ _
  rw [mem_bitsTo]
  constructor
  · rintro ⟨p, hp, hb, rfl⟩
    rw [bitB_testBit, Nat.testBit_two_pow_sub_one] at hb
    exact mem_allFrom m p (by simpa using hb)
  · intro ha
    have := incr_mem (allFrom_incr m _ 0 rfl) a ha
    refine ⟨a.toNat, by omega, ?_, by omega⟩
    rw [bitB_testBit, Nat.testBit_two_pow_sub_one]
    simp; omega

/-- The reference's smallest set is the first of the lists without which there is a truth. -/
theorem best_leave {r cc : Int} {l : List Int} {sm : Int} {cs : List Cnt} (h : faultL r cc l sm cs = 0) : First (leftB cc l sm cs) cs.length (bestL (fun k => canB cc l sm cs k) cs.length) := by
  obtain ⟨h1, h2, h3, h4, h5⟩ := fault0 h
  have hff := field_facts h2
  simp only [inB, Bool.and_eq_true, decide_eq_true_eq] at h3
  have key : ∀ k : Nat, canB cc l sm cs (k : Nat) = leftB cc l sm cs (bitsL (k : Nat)) := fun k => can_mem hff.2.2.1 hff.2.2.2.2.2.2.2 h5 h4 (outIs_bits _ (by omega) k)
  refine bestL_first (by omega) (fun k _ => key k) ?_
  show canB cc l sm cs ((2 ^ cs.length - 1 : Nat) : Int) = true
  rw [key, bits_all _ (by omega)]
  exact left_all hff.2.2.2.2.2.2.2 h3.1

set_option maxRecDepth 40000 in
set_option maxHeartbeats 8000000 in
theorem frameLeaves_any (r cc : Int) (p : Option Addr) (n c : Nat) (l : List Int) (sm : Int) (q : Option Addr) (m d : Nat) (cs : List Cnt) (w : World) (hl : IntsAt w p n l) (hcs : CntsAt w q m cs) :
    Calls Try.prog 4 #[.agg #[.int .i64 r, .int .i64 cc, .slice p n c, .int .i64 sm, .slice q m d]] w fun e w' => e = .returned (.bool true) ∧ Below w.heap.size w w' := by
  have HL := hid hl
  have HCS := hid hcs
  clear hl hcs
  obtain ⟨W1, hW1⟩ : ∃ W1, w.alloc (.cells #[.int .i64 r, .int .i64 cc, .slice p n c, .int .i64 sm, .slice q m d] 27) = W1 := ⟨_, rfl⟩
  have B1 : Boxed1 w #[.int .i64 r, .int .i64 cc, .slice p n c, .int .i64 sm, .slice q m d] 27 W1 := by rw [← hW1]; exact Boxed1.start _ _ _
  have g0 := B1.cell 0 (v := .int .i64 r) rfl
  have g1 := B1.cell 1 (v := .int .i64 cc) rfl
  have g2 := B1.cell 2 (v := .slice p n c) rfl
  have g3 := B1.cell 3 (v := .int .i64 sm) rfl
  have g4 := B1.cell 4 (v := .slice q m d) rfl
  have HB1 := hid B1
  clear B1
  by_cases ht : n ≤ 12 ∧ m ≤ 9
  · have htb : (decide (n ≤ 12) && decide (m ≤ 9)) = true := by simp [ht.1, ht.2]
    obtain ⟨hn, hm⟩ := ht
    go_enter Try.func4, Try.ntmps4
    go_wp2_with fail
    refine (thin_any _ _ _ _ _ _ _ _ _ _).mono ?_
    rintro e w2 ⟨rfl, hb⟩
    rw [htb]
    have HB2 := hid (HB1.out.step hb)
    clear hb g0 g1 g2 g3 g4
    have g0 := HB2.out.cell 0 (v := .int .i64 r) rfl
    have g1 := HB2.out.cell 1 (v := .int .i64 cc) rfl
    have g2 := HB2.out.cell 2 (v := .slice p n c) rfl
    have g3 := HB2.out.cell 3 (v := .int .i64 sm) rfl
    have g4 := HB2.out.cell 4 (v := .slice q m d) rfl
    go_wp2_with fail
    refine (surveyX_any r cc p n c l sm q m d cs _ (HL.out.below HB2.out.below) (HCS.out.below HB2.out.below) (by omega) (by omega)).mono ?_
    rintro e w3 ⟨p3, n3, c3, q3, m3, d3, rfl, hi3, hc3, hb⟩
    have hn3 : n3 ≤ 12 := by have := hi3.1; have := HL.out.1; omega
    have hm3 : m3 ≤ 9 := by have := hc3.1; have := HCS.out.1; omega
    have HB3 := hid (HB2.out.step hb)
    have HI3 := hid hi3
    have HC3 := hid hc3
    clear hb hi3 hc3 g0 g1 g2 g3 g4
    go_wp2_with fail
    refine (Leave_any r cc p3 n3 c3 l sm q3 m3 d3 cs w3 HI3.out HC3.out (by omega) (by omega)).mono ?_
    rintro e w4 ⟨p4, n4, c4, X, rfl, hx, hX, hb⟩
    have HB4 := hid (HB3.out.step hb)
    have HX := hid hx
    have HXX := hid hX
    clear hb hx hX
    have g0 := HB4.out.cell 0 (v := .int .i64 r) rfl
    have g1 := HB4.out.cell 1 (v := .int .i64 cc) rfl
    have g2 := HB4.out.cell 2 (v := .slice p n c) rfl
    have g3 := HB4.out.cell 3 (v := .int .i64 sm) rfl
    have g4 := HB4.out.cell 4 (v := .slice q m d) rfl
    go_wp2_with fail
    refine (faultX_any r cc p n c l sm q m d cs _ (HL.out.below HB4.out.below) (HCS.out.below HB4.out.below) (by omega) (by omega)).mono ?_
    rintro e w5 ⟨rfl, hb⟩
    have HB5 := hid (HB4.out.step hb)
    have HX5 := hid (HX.out.below hb)
    clear hb g0 g1 g2 g3 g4
    have g0 := HB5.out.cell 0 (v := .int .i64 r) rfl
    have g1 := HB5.out.cell 1 (v := .int .i64 cc) rfl
    have g2 := HB5.out.cell 2 (v := .slice p n c) rfl
    have g3 := HB5.out.cell 3 (v := .int .i64 sm) rfl
    have g4 := HB5.out.cell 4 (v := .slice q m d) rfl
    by_cases hf : faultL r cc l sm cs = 0
    · have HF := hid hf
      rw [hf]
      clear hf
      go_wp2_with fail
      refine (leave_any r cc p n c l sm q m d cs _ (HL.out.below HB5.out.below) (HCS.out.below HB5.out.below) (oks_of HF.out) hm).mono ?_
      rintro e w6 ⟨v6, rfl, ho, hb⟩
      obtain ⟨p6, c6, rfl, h6⟩ := ho.slice
      have hXe : X = bestL (fun k => canB cc l sm cs k) m := by
        have hX' : ite _ _ _ := HXX.out
        rw [if_pos HF.out] at hX'
        have h2 := best_leave HF.out
        rw [← HCS.out.1] at h2 hX'
        exact hX'.unique h2
      have HB6 := hid (HB5.out.step hb)
      have HX6 := hid (HX5.out.below hb)
      have H6 := hid h6
      have hl9 : (bestL (fun k => canB cc l sm cs k) m).length ≤ 9 := by
        have h2 := (best_leave HF.out).1
        rw [← HCS.out.1] at h2
        by_cases e : bestL (fun k => canB cc l sm cs k) m = []
        · rw [e]; simp
        · have := incr_room m _ 0 h2 e
          omega
      have hl6 : (bestL (fun k => canB cc l sm cs k) m).length ≤ 1000000 := by omega
      have hn4 : n4 ≤ 1000000 := by rw [HX.out.1, hXe]; omega
      have HXE := hid hXe
      clear hb ho h6 hXe
      go_wp2_with fail
      refine (same_any p4 n4 c4 X p6 _ c6 _ w6 HX6.out H6.out hn4 hl6).mono ?_
      rintro e w7 ⟨rfl, nn, hw7⟩
      have hsame : sameB X (bestL (fun k => canB cc l sm cs k) m) = true := by rw [← HXE.out]; simp [sameB, before_irr]
      rw [hsame]
      have HB7 : Hid (Below w.heap.size w w7) := by rw [hw7]; exact below_drewN HB6.out.below _
      clear hw7 hsame
      go_wp2_with fail
      refine (awake_any _).mono ?_
      rintro e w8 ⟨rfl, hb⟩
      go_wp2_with fail
      go_ret
      exact ⟨rfl, HB7.out.trans (hb.mono HB7.out.size)⟩
    · have hXe : X = [] := by
        have hX' : ite _ _ _ := HXX.out
        rw [if_neg hf] at hX'
        exact hX'
      subst hXe
      obtain rfl : n4 = 0 := HX.out.1
      generalize faultL r cc l sm cs = fl at *
      have hfb : (fl == 0) = false := by simp [hf]
      clear hf
      go_wp2_with fail
      refine (awake_any _).mono ?_
      rintro e w8 ⟨rfl, hb⟩
      go_wp2_with fail
      go_ret
      exact ⟨rfl, HB5.out.below.trans (hb.mono HB5.out.below.size)⟩
  · have htb : (decide (n ≤ 12) && decide (m ≤ 9)) = false := by
      rw [Bool.and_eq_false_iff, decide_eq_false_iff_not, decide_eq_false_iff_not]
      exact Decidable.not_and_iff_or_not.1 ht
    go_enter Try.func4, Try.ntmps4
    go_wp2_with fail
    refine (thin_any _ _ _ _ _ _ _ _ _ _).mono ?_
    rintro e w2 ⟨rfl, hb⟩
    rw [htb]
    have HB2 := hid (HB1.out.step hb)
    clear hb g0 g1 g2 g3 g4
    go_wp2_with fail
    refine (awake_any _).mono ?_
    rintro e w8 ⟨rfl, hb⟩
    go_wp2_with fail
    go_ret
    exact ⟨rfl, HB2.out.below.trans (hb.mono HB2.out.below.size)⟩
end Go.Proofs.Ytlicijnaacdceaa
