/- CheckProgramme of the program; the statements' helpers fault, Thin and ready. No condition. -/
import Derived.Test.YtaioobhblfnlaaaB5
namespace Go.Proofs.Ytaioobhblfnlaaa
open Go.RowKit


set_option maxRecDepth 40000 in
set_option maxHeartbeats 16000000 in
theorem check_any (p : Prg) (lp : Option Addr) (ln lc : Nat) (tp : Option Addr) (tn tc : Nat) (rp : Option Addr) (rn rc : Nat) (w : World) (hp : PrgAt w p lp ln tp tn rp rn) :
    Calls Try.prog 24 #[.agg #[.slice lp ln lc, .int .i64 p.reserve, .slice tp tn tc, .slice rp rn rc]] w fun e w' => e = .returned (.int .i64 (faultP p)) ∧ Below w.heap.size w w' := by
  have HLN := hid hp.l.1; have HTN := hid hp.t.1; have HRN := hid hp.r.1
  have HP := hid hp
  clear hp
  have H0 : Hid (Boxed1 w #[.slice lp ln lc, .int .i64 p.reserve, .slice tp tn tc, .slice rp rn rc] 37 (w.alloc (.cells #[.slice lp ln lc, .int .i64 p.reserve, .slice tp tn tc, .slice rp rn rc] 37))) := hid (Boxed1.start _ _ _)
  have hmf : ∀ (fn : Fn) (first cap : Array Value) (w : World), (Instr.makeFunc fn first cap).run Try.prog w = .ok (.func fn first cap) w := fun _ _ _ _ => rfl
  by_cases h1 : 4 < ln
  · have HF : Hid (faultP p = 3) := hid (fault_big (by unfold bigP; have := HLN.out; have := HTN.out; have := HRN.out; omega))
    go_enter Try.func24, Try.ntmps24
    go_wp2_with fail
    go_ret
    exact ⟨ret_int HF.out.symm, H0.out.below⟩
  by_cases h2 : 5 < tn
  · have HF : Hid (faultP p = 3) := hid (fault_big (by unfold bigP; have := HLN.out; have := HTN.out; have := HRN.out; omega))
    go_enter Try.func24, Try.ntmps24
    go_wp2_with fail
    go_ret
    exact ⟨ret_int HF.out.symm, H0.out.below⟩
  by_cases h3 : 5 < rn
  · have HF : Hid (faultP p = 3) := hid (fault_big (by unfold bigP; have := HLN.out; have := HTN.out; have := HRN.out; omega))
    go_enter Try.func24, Try.ntmps24
    go_wp2_with fail
    go_ret
    exact ⟨ret_int HF.out.symm, H0.out.below⟩
  have HNB : Hid (¬ bigP p) := hid (by unfold bigP; have := HLN.out; have := HTN.out; have := HRN.out; omega)
  cases h4 : inB p.reserve 0 10000
  · have HF : Hid (faultP p = 1) := hid (fault_arg HNB.out (by simp [argsB, tre_all, h4]))
    go_enter Try.func24, Try.ntmps24
    go_wp2_with (go_at_call 69; refine (within_any _ _ _ _).mono ?_; rintro e w' ⟨rfl, rfl⟩)
    go_ret
    exact ⟨ret_int HF.out.symm, H0.out.below⟩
  · skip
    go_enter Try.func24, Try.ntmps24
    go_wp2_with (go_at_call 69; refine (within_any _ _ _ _).mono ?_; rintro e w' ⟨rfl, rfl⟩)
    have HA := hid h4
    clear h4
    have e0 := H0.out.cell 0 (v := .slice lp ln lc) rfl; have e1 := H0.out.cell 1 (v := .int .i64 p.reserve) rfl; have e2 := H0.out.cell 2 (v := .slice tp tn tc) rfl; have e3 := H0.out.cell 3 (v := .slice rp rn rc) rfl
    refine (allRng_any lp ln lc p.losses _ (by omega) (HP.out.l.below H0.out.below)).mono ?_
    rintro e w1 ⟨rfl, hb⟩
    have H1 := hid (H0.out.step hb)
    clear e0 e1 e2 e3 hb 
    cases h5 : p.losses.all lossB
    · have HF : Hid (faultP p = 1) := hid (fault_arg HNB.out (by simp [argsB, tre_all, h5]))
      have e0 := H1.out.cell 0 (v := .slice lp ln lc) rfl; have e1 := H1.out.cell 1 (v := .int .i64 p.reserve) rfl; have e2 := H1.out.cell 2 (v := .slice tp tn tc) rfl; have e3 := H1.out.cell 3 (v := .slice rp rn rc) rfl
      go_wp2_with fail
      go_ret
      exact ⟨ret_int HF.out.symm, H1.out.below⟩
    · skip
      have HL1 := hid h5
      clear h5
      have e0 := H1.out.cell 0 (v := .slice lp ln lc) rfl; have e1 := H1.out.cell 1 (v := .int .i64 p.reserve) rfl; have e2 := H1.out.cell 2 (v := .slice tp tn tc) rfl; have e3 := H1.out.cell 3 (v := .slice rp rn rc) rfl
      go_wp2_with fail
      refine (allTre_any tp tn tc p.ts w1 (by omega) (HP.out.t.below H1.out.below)).mono ?_
      rintro e w2 ⟨rfl, hb⟩
      have H2 := hid (H1.out.step hb)
      clear e0 e1 e2 e3 hb 
      cases h6 : p.ts.all treV
      · have HF : Hid (faultP p = 1) := hid (fault_arg HNB.out (by simp [argsB, tre_all, h6]))
        have e0 := H2.out.cell 0 (v := .slice lp ln lc) rfl; have e1 := H2.out.cell 1 (v := .int .i64 p.reserve) rfl; have e2 := H2.out.cell 2 (v := .slice tp tn tc) rfl; have e3 := H2.out.cell 3 (v := .slice rp rn rc) rfl
        go_wp2_with fail
        go_ret
        exact ⟨ret_int HF.out.symm, H2.out.below⟩
      · skip
        have HL2 := hid h6
        clear h6
        have e0 := H2.out.cell 0 (v := .slice lp ln lc) rfl; have e1 := H2.out.cell 1 (v := .int .i64 p.reserve) rfl; have e2 := H2.out.cell 2 (v := .slice tp tn tc) rfl; have e3 := H2.out.cell 3 (v := .slice rp rn rc) rfl
        go_wp2_with fail
        refine (ordered_any p lp ln lc tp tn tc rp rn rc w2 (HP.out.below H2.out.below) (by omega)).mono ?_
        rintro e w3 ⟨rfl, hb⟩
        have H3 := hid (H2.out.step hb)
        clear e0 e1 e2 e3 hb 
        cases h7 : allI offB 0 p.ts
        · have HF : Hid (faultP p = 1) := hid (fault_arg HNB.out (by simp [argsB, tre_all, h7]))
          have e0 := H3.out.cell 0 (v := .slice lp ln lc) rfl; have e1 := H3.out.cell 1 (v := .int .i64 p.reserve) rfl; have e2 := H3.out.cell 2 (v := .slice tp tn tc) rfl; have e3 := H3.out.cell 3 (v := .slice rp rn rc) rfl
          go_wp2_with fail
          go_ret
          exact ⟨ret_int HF.out.symm, H3.out.below⟩
        · skip
          have HL3 := hid h7
          clear h7
          have e0 := H3.out.cell 0 (v := .slice lp ln lc) rfl; have e1 := H3.out.cell 1 (v := .int .i64 p.reserve) rfl; have e2 := H3.out.cell 2 (v := .slice tp tn tc) rfl; have e3 := H3.out.cell 3 (v := .slice rp rn rc) rfl
          go_wp2_with fail
          refine (allRep_any p lp ln lc tp tn tc rp rn rc rp rn rc p.reps w3 (by omega) (by omega) (HP.out.r.below H3.out.below)).mono ?_
          rintro e w4 ⟨rfl, hb⟩
          have H4 := hid (H3.out.step hb)
          clear e0 e1 e2 e3 hb 
          cases h8 : p.reps.all (repB tn)
          · have HF : Hid (faultP p = 1) := hid (fault_arg HNB.out (by rw [HTN.out] at h8; simp [argsB, h8]))
            have e0 := H4.out.cell 0 (v := .slice lp ln lc) rfl; have e1 := H4.out.cell 1 (v := .int .i64 p.reserve) rfl; have e2 := H4.out.cell 2 (v := .slice tp tn tc) rfl; have e3 := H4.out.cell 3 (v := .slice rp rn rc) rfl
            go_wp2_with fail
            go_ret
            exact ⟨ret_int HF.out.symm, H4.out.below⟩
          · skip
            have HAR : Hid (argsB p = true) := hid (by rw [HTN.out] at h8; simp [argsB, tre_all, HA.out, HL1.out, HL2.out, HL3.out, h8])
            clear h8
            have HLO := hid (LossOk.of HL1.out)
            have HMN := hid (many_min HLO.out 1501 (by omega))
            have hln : ln ≤ 4 := by omega
            have e0 := H4.out.cell 0 (v := .slice lp ln lc) rfl; have e1 := H4.out.cell 1 (v := .int .i64 p.reserve) rfl; have e2 := H4.out.cell 2 (v := .slice tp tn tc) rfl; have e3 := H4.out.cell 3 (v := .slice rp rn rc) rfl
            go_wp2_with fail
            clear e0 e1 e2 e3
            go_loopw [4, 58] (fun m i wr => ∃ (k : Nat) (n : Int), k ≤ ln ∧ m = .int .i64 n ∧ i = .int .i64 k ∧ (1 ≤ n ∧ n ≤ 1501) ∧ manyG 1501 n (p.losses.drop k) = manyG 1501 1 p.losses ∧ Boxed1 w #[.slice lp ln lc, .int .i64 p.reserve, .slice tp tn tc, .slice rp rn rc] 37 wr) (fun _ i _ => ln - (intOf i).toNat)
            case atStart => exact ⟨0, 1, by omega, rfl, rfl, by omega, rfl, H4.out⟩
            case round =>
              obtain ⟨k, n, hk, rfl, rfl, hn1, hr, hb⟩ := hrel
              have HR := hid hr; have HB := hid hb
              clear hr H4
              by_cases hlt : k < ln
              · obtain ⟨r, ht, b1, o1, rfl, hb1, hc0, hc1⟩ := (HP.out.l.below hb.below).rng hlt
                have HD := hid (drop_at' ht)
                have hrl := HLO.out r (List.mem_of_getElem? ht)
                clear ht hb
                have hc : 1 ≤ r.cnt ∧ r.cnt ≤ 1001 := by unfold Rng.cnt; omega
                have hm0 : n ≤ n * r.cnt := le_mul (by omega) hc.1
                have hm1 : n * r.cnt ≤ 1501 * 1001 := Int.mul_le_mul (by omega) hc.2 (by omega) (by omega)
                have HB1 := hid (HB.out.step ((Below.refl _ _).alloc (Nat.le_refl _) (.cells #[.int .i64 r.lo, .int .i64 r.hi] 51)))
                have HS := hid (fun W1 (hW : Below (wr.alloc (.cells #[.int .i64 r.lo, .int .i64 r.hi] 51)).heap.size (wr.alloc (.cells #[.int .i64 r.lo, .int .i64 r.hi] 51)) W1) => HB1.out.step hW)
                have HX := hid (fun W1 (hW : Below (wr.alloc (.cells #[.int .i64 r.lo, .int .i64 r.hi] 51)).heap.size (wr.alloc (.cells #[.int .i64 r.lo, .int .i64 r.hi] 51)) W1) => RngAt.of (W := W1) (b := wr.heap.size) (r := r) (fun k v hk => ((hW.cell (p := ⟨wr.heap.size, k, none⟩) (by simp)).trans (cell_box wr _ 51 k v hk))))
                have HF : Hid (manyG 1501 (minI (n * r.cnt) 1501) (p.losses.drop (k + 1)) = manyG 1501 1 p.losses) := by show _ = _; rw [← HR.out, HD.out, manyG, minI_comm]
                have hmi := minI_spec (n * r.cnt) 1501
                have hmj : 1 ≤ minI (n * r.cnt) 1501 := by omega
                have HM := hid (fun (x y : Int) (W : World) (b : Nat) h0 h1 => min2_any b x y W h0 h1)
                go_wp2_with fail
                refine (rsize_any r _ (by omega) (by omega) (by omega) (by omega)).mono ?_
                rintro e w1 ⟨rfl, hb2⟩
                have HB2 := hid (HS.out _ hb2)
                clear hb2
                go_wp2_with (go_at_call 76; (with_reducible refine (HM.out (n * r.cnt) 1501 _ _ ?_ ?_).mono ?_); go_simp; go_simp; rintro e w2 ⟨rfl, rfl⟩)
                go_roundw
                case rel => exact ⟨k + 1, minI (n * r.cnt) 1501, by omega, rfl, by go_num, by omega, HF.out, HB2.out.alloc _⟩
                case measure => simp [intOf]; omega
              · have HF0 : Hid (n = minI 1501 (prodL p.losses)) := by show _ = _; rw [← HMN.out, ← HR.out, List.drop_of_length_le (by have := HLN.out; omega)]; rfl
                clear HR hb
                by_cases hm : 1500 < prodL p.losses
                · have HF : Hid (faultP p = 3) := hid (by rw [fault_many HNB.out HAR.out, if_pos hm])
                  have hmm : 1500 < n := by rw [HF0.out]; unfold minI; split <;> omega
                  clear hm
                  go_wp2_with fail
                  go_ret
                  exact ⟨ret_int HF.out.symm, HB.out.below⟩
                · have HF : Hid (faultP p = 0) := hid (by rw [fault_many HNB.out HAR.out, if_neg hm])
                  have hmm : ¬ 1500 < n := by rw [HF0.out]; unfold minI; split <;> omega
                  clear hm
                  go_wp2_with fail
                  go_ret
                  exact ⟨ret_int HF.out.symm, HB.out.below⟩

set_option maxRecDepth 20000 in
set_option maxHeartbeats 1000000 in
theorem faultL_any (p : Prg) (lp : Option Addr) (ln lc : Nat) (tp : Option Addr) (tn tc : Nat) (rp : Option Addr) (rn rc : Nat) (w : World) (hp : PrgAt w p lp ln tp tn rp rn) :
    Calls Try.prog 23 #[.agg #[.slice lp ln lc, .int .i64 p.reserve, .slice tp tn tc, .slice rp rn rc]] w fun e w' => e = .returned (.int .i64 (faultP p)) ∧ Below w.heap.size w w' := by
  have HC := hid (fun W (hW : Below w.heap.size w W) => fault_any p lp ln lc tp tn tc rp rn rc W (hp.below hW))
  clear hp
  have H0 : Hid (Boxed1 w #[.slice lp ln lc, .int .i64 p.reserve, .slice tp tn tc, .slice rp rn rc] 26 (w.alloc (.cells #[.slice lp ln lc, .int .i64 p.reserve, .slice tp tn tc, .slice rp rn rc] 26))) := hid (Boxed1.start _ _ _)
  go_enter Try.func23, Try.ntmps23
  go_wp2_with fail
  refine (HC.out _ H0.out.below).mono ?_
  rintro e w1 ⟨rfl, hb⟩
  have H1 := hid (H0.out.step hb)
  clear hb
  go_wp2_with fail
  go_ret
  exact ⟨rfl, H1.out.below⟩

open Classical in
noncomputable def thinB (p : Prg) : Bool := decide (p.losses.length ≤ 7 ∧ p.ts.length ≤ 8 ∧ p.reps.length ≤ 8) && (decide (faultP p ≠ 0) || decide (prodL p.losses ≤ 300))
open Classical in
noncomputable def readyB (p : Prg) : Bool := thinB p && decide (faultP p = 0)
theorem ready_iff {p : Prg} : readyB p = true ↔ OkP p ∧ prodL p.losses ≤ 300 := by
  unfold readyB thinB
  rw [Bool.and_eq_true, Bool.and_eq_true, Bool.or_eq_true, decide_eq_true_eq, decide_eq_true_eq, decide_eq_true_eq, decide_eq_true_eq]
  constructor
  · rintro ⟨⟨_, h⟩, h0⟩
    exact ⟨fault_iff.1 h0, h.resolve_left fun h => h h0⟩
  · rintro ⟨h, h2⟩
    have := h.n4; have := h.m5; have := h.k5
    exact ⟨⟨⟨by omega, by omega, by omega⟩, .inr h2⟩, fault_iff.2 h⟩
theorem OkP.lossOk {p : Prg} (h : OkP p) : LossOk p.losses := h.loss

set_option maxRecDepth 40000 in
set_option maxHeartbeats 8000000 in
theorem thin_any (p : Prg) (lp : Option Addr) (ln lc : Nat) (tp : Option Addr) (tn tc : Nat) (rp : Option Addr) (rn rc : Nat) (w : World) (hp : PrgAt w p lp ln tp tn rp rn) :
    Calls Try.prog 18 #[.agg #[.slice lp ln lc, .int .i64 p.reserve, .slice tp tn tc, .slice rp rn rc]] w fun e w' => e = .returned (.bool (thinB p)) ∧ Below w.heap.size w w' := by
  have HLN := hid hp.l.1; have HTN := hid hp.t.1; have HRN := hid hp.r.1
  have HP := hid hp
  clear hp
  have H0 : Hid (Boxed1 w #[.slice lp ln lc, .int .i64 p.reserve, .slice tp tn tc, .slice rp rn rc] 26 (w.alloc (.cells #[.slice lp ln lc, .int .i64 p.reserve, .slice tp tn tc, .slice rp rn rc] 26))) := hid (Boxed1.start _ _ _)
  by_cases h0 : ln ≤ 7
  rotate_left
  · have HF : Hid (thinB p = false) := hid (by rw [thinB, decide_eq_false (by have := HLN.out; omega)]; rfl)
    go_enter Try.func18, Try.ntmps18
    go_wp2_with fail
    go_ret
    exact ⟨ret_bool HF.out.symm, H0.out.below⟩
  by_cases h1 : tn ≤ 8
  rotate_left
  · have HF : Hid (thinB p = false) := hid (by rw [thinB, decide_eq_false (by have := HTN.out; omega)]; rfl)
    go_enter Try.func18, Try.ntmps18
    go_wp2_with fail
    go_ret
    exact ⟨ret_bool HF.out.symm, H0.out.below⟩
  by_cases h2 : rn ≤ 8
  rotate_left
  · have HF : Hid (thinB p = false) := hid (by rw [thinB, decide_eq_false (by have := HRN.out; omega)]; rfl)
    go_enter Try.func18, Try.ntmps18
    go_wp2_with fail
    go_ret
    exact ⟨ret_bool HF.out.symm, H0.out.below⟩
  have HT : Hid (thinB p = (decide (faultP p ≠ 0) || decide (prodL p.losses ≤ 300))) := hid (by rw [thinB, decide_eq_true (by have := HLN.out; have := HTN.out; have := HRN.out; omega)]; rfl)
  go_enter Try.func18, Try.ntmps18
  have e0 := H0.out.cell 0 (v := .slice lp ln lc) rfl; have e1 := H0.out.cell 1 (v := .int .i64 p.reserve) rfl; have e2 := H0.out.cell 2 (v := .slice tp tn tc) rfl; have e3 := H0.out.cell 3 (v := .slice rp rn rc) rfl
  go_wp2_with fail
  refine (fault_any p lp ln lc tp tn tc rp rn rc _ (HP.out.below H0.out.below)).mono ?_
  rintro e w1 ⟨rfl, hb⟩
  have H1 := hid (H0.out.step hb)
  clear e0 e1 e2 e3 hb 
  by_cases hf : faultP p = 0
  · have HO := hid (fault_iff.1 hf)
    rw [hf]
    have HF0 := hid hf
    clear hf
    have e0 := H1.out.cell 0 (v := .slice lp ln lc) rfl; have e1 := H1.out.cell 1 (v := .int .i64 p.reserve) rfl; have e2 := H1.out.cell 2 (v := .slice tp tn tc) rfl; have e3 := H1.out.cell 3 (v := .slice rp rn rc) rfl
    go_wp2_with fail
    refine (many_any p lp ln lc tp tn tc rp rn rc w1 (HP.out.below H1.out.below) (by omega) HO.out.lossOk).mono ?_
    rintro e w2 ⟨rfl, hb⟩
    have H2 := hid (H1.out.step hb)
    clear e0 e1 e2 e3 hb 
    by_cases hm : prodL p.losses ≤ 300
    · have HF : Hid (thinB p = true) := hid (by rw [HT.out, HF0.out]; simp; omega)
      have hmm : decide (minI 2000 (prodL p.losses) ≤ 300) = true := by rw [decide_eq_true_eq]; unfold minI; split <;> omega
      have e0 := H2.out.cell 0 (v := .slice lp ln lc) rfl; have e1 := H2.out.cell 1 (v := .int .i64 p.reserve) rfl; have e2 := H2.out.cell 2 (v := .slice tp tn tc) rfl; have e3 := H2.out.cell 3 (v := .slice rp rn rc) rfl
      go_wp2_with fail
      go_ret
      exact ⟨ret_bool HF.out.symm, H2.out.below⟩
    · have HF : Hid (thinB p = false) := hid (by rw [HT.out, HF0.out]; simp; omega)
      have hmm : decide (minI 2000 (prodL p.losses) ≤ 300) = false := by rw [decide_eq_false_iff_not]; unfold minI; split <;> omega
      have e0 := H2.out.cell 0 (v := .slice lp ln lc) rfl; have e1 := H2.out.cell 1 (v := .int .i64 p.reserve) rfl; have e2 := H2.out.cell 2 (v := .slice tp tn tc) rfl; have e3 := H2.out.cell 3 (v := .slice rp rn rc) rfl
      go_wp2_with fail
      go_ret
      exact ⟨ret_bool HF.out.symm, H2.out.below⟩
  · have HF : Hid (thinB p = true) := hid (by rw [HT.out]; simp [hf])
    have hf2 : (faultP p != 0) = true := by simpa using hf
    clear hf
    have e0 := H1.out.cell 0 (v := .slice lp ln lc) rfl; have e1 := H1.out.cell 1 (v := .int .i64 p.reserve) rfl; have e2 := H1.out.cell 2 (v := .slice tp tn tc) rfl; have e3 := H1.out.cell 3 (v := .slice rp rn rc) rfl
    go_wp2_with fail
    go_ret
    exact ⟨ret_bool HF.out.symm, H1.out.below⟩

set_option maxRecDepth 40000 in
set_option maxHeartbeats 4000000 in
theorem ready_any (p : Prg) (lp : Option Addr) (ln lc : Nat) (tp : Option Addr) (tn tc : Nat) (rp : Option Addr) (rn rc : Nat) (w : World) (hp : PrgAt w p lp ln tp tn rp rn) :
    Calls Try.prog 52 #[.agg #[.slice lp ln lc, .int .i64 p.reserve, .slice tp tn tc, .slice rp rn rc]] w fun e w' => e = .returned (.bool (readyB p)) ∧ Below w.heap.size w w' := by
  have HP := hid hp
  clear hp
  have H0 : Hid (Boxed1 w #[.slice lp ln lc, .int .i64 p.reserve, .slice tp tn tc, .slice rp rn rc] 26 (w.alloc (.cells #[.slice lp ln lc, .int .i64 p.reserve, .slice tp tn tc, .slice rp rn rc] 26))) := hid (Boxed1.start _ _ _)
  go_enter Try.func52, Try.ntmps52
  have e0 := H0.out.cell 0 (v := .slice lp ln lc) rfl; have e1 := H0.out.cell 1 (v := .int .i64 p.reserve) rfl; have e2 := H0.out.cell 2 (v := .slice tp tn tc) rfl; have e3 := H0.out.cell 3 (v := .slice rp rn rc) rfl
  go_wp2_with fail
  refine (thin_any p lp ln lc tp tn tc rp rn rc _ (HP.out.below H0.out.below)).mono ?_
  rintro e w1 ⟨rfl, hb⟩
  have H1 := hid (H0.out.step hb)
  clear e0 e1 e2 e3 hb 
  cases ht : thinB p
  · have HF : Hid (readyB p = false) := hid (by rw [readyB, ht]; rfl)
    have e0 := H1.out.cell 0 (v := .slice lp ln lc) rfl; have e1 := H1.out.cell 1 (v := .int .i64 p.reserve) rfl; have e2 := H1.out.cell 2 (v := .slice tp tn tc) rfl; have e3 := H1.out.cell 3 (v := .slice rp rn rc) rfl
    go_wp2_with fail
    go_ret
    exact ⟨ret_bool HF.out.symm, H1.out.below⟩
  · have HT : Hid (readyB p = decide (faultP p = 0)) := hid (by rw [readyB, ht]; rfl)
    have e0 := H1.out.cell 0 (v := .slice lp ln lc) rfl; have e1 := H1.out.cell 1 (v := .int .i64 p.reserve) rfl; have e2 := H1.out.cell 2 (v := .slice tp tn tc) rfl; have e3 := H1.out.cell 3 (v := .slice rp rn rc) rfl
    go_wp2_with fail
    refine (fault_any p lp ln lc tp tn tc rp rn rc w1 (HP.out.below H1.out.below)).mono ?_
    rintro e w2 ⟨rfl, hb⟩
    have H2 := hid (H1.out.step hb)
    clear e0 e1 e2 e3 hb 
    by_cases hf : faultP p = 0
    · have HF : Hid (readyB p = true) := hid (by rw [HT.out, hf]; rfl)
      rw [hf]
      clear hf ht
      have e0 := H2.out.cell 0 (v := .slice lp ln lc) rfl; have e1 := H2.out.cell 1 (v := .int .i64 p.reserve) rfl; have e2 := H2.out.cell 2 (v := .slice tp tn tc) rfl; have e3 := H2.out.cell 3 (v := .slice rp rn rc) rfl
      go_wp2_with fail
      go_ret
      exact ⟨ret_bool HF.out.symm, H2.out.below⟩
    · have HF : Hid (readyB p = false) := hid (by rw [HT.out]; simp [hf])
      have hf2 : (faultP p == 0) = false := by simpa using hf
      clear hf ht
      have e0 := H2.out.cell 0 (v := .slice lp ln lc) rfl; have e1 := H2.out.cell 1 (v := .int .i64 p.reserve) rfl; have e2 := H2.out.cell 2 (v := .slice tp tn tc) rfl; have e3 := H2.out.cell 3 (v := .slice rp rn rc) rfl
      go_wp2_with fail
      go_ret
      exact ⟨ret_bool HF.out.symm, H2.out.below⟩
end Go.Proofs.Ytaioobhblfnlaaa
