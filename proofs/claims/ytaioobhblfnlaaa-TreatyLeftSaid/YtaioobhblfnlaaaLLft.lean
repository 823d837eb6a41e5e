/- TreatyLeft: without the smallest set the programme has a truth; without any shorter list, or one that is as long and lexicographically before it, it has none. For each programme and each byte. -/
import Derived.Test.YtaioobhblfnlaaaD7
namespace Go.Proofs.Ytaioobhblfnlaaa
open Go.RowKit


theorem err_some {p : Prg} (ok : OkP p) (m : Int) : errP (someP p m) = if possO (someP p m) allT [] = true then 0 else 11 := errP_ok (fault_iff.2 (ok.some m))
theorem andN_low (n b i : Nat) (hn : n ≤ 12) : (andN (2 ^ n - 1) b).testBit i = (decide (i < n) && !b.testBit i) := by
  rw [andN, numOf_bit, Nat.testBit_two_pow_sub_one]
  by_cases h : i < n
  · have h12 : i < 12 := by omega
    simp [h, h12]
  · simp [h]
theorem left_law {p : Prg} (ok : OkP p) : IncrG p.reps.length 0 (leaveP p) ∧ possO (someP p ((andN (2 ^ p.reps.length - 1) (setOf (leaveP p) (leaveP p).length) : Nat) : Int)) allT [] = true ∧
    ∀ N, N < 2 ^ p.reps.length → possO (someP p ((andN (2 ^ p.reps.length - 1) N : Nat) : Int)) allT [] = true → shorterB (bitsL (N : Int)) (leaveP p) = false := by
  obtain ⟨h1, h2, h3⟩ := leave_first ok
  have h5 := ok.k5
  refine ⟨h1, ?_, fun N hN hp => ?_⟩
  · rw [some_out (out := leaveP p) (fun i hi => by
      rw [andN_low _ _ _ (by omega), setOf_bit, decide_eq_true hi, Bool.true_and]
      have : i < 12 := by omega
      simp [this])]
    exact h2
  · rw [some_out (out := bitsL (N : Int)) (fun i hi => by
      rw [andN_low _ _ _ (by omega), decide_eq_true hi, Bool.true_and, bitsL_mem hN (by omega)]
      simp)] at hp
    exact h3 _ (bitsL_incr hN (by omega)) hp
theorem some_n {p : Prg} {m : Int} {W : World} {lp : Option Addr} {ln : Nat} {tp : Option Addr} {tn : Nat} {q : Option Addr} {n : Nat} (ok : OkP p) (h : PrgAt W (someP p m) lp ln tp tn q n) : n ≤ 9 := by
  have h1 := h.r.1; have h2 := someR_len p.reps m p.reps.length; have h3 := ok.k5; have h4 : n = (someR p.reps m p.reps.length).length := h1; omega
theorem pow_bd {j : Nat} (hj : j ≤ 9) : (1 : Int) ≤ 2 ^ j ∧ (2 : Int) ^ j ≤ 512 := by
  obtain ⟨M, h1, h2, h3, _⟩ := pow_facts hj
  have : (2 : Int) ^ j = (M : Int) := by rw [← h1]; simp
  omega

set_option maxRecDepth 40000 in
set_option maxHeartbeats 16000000 in
theorem treatyLeft_any (p : Prg) (lp : Option Addr) (ln lc : Nat) (tp : Option Addr) (tn tc : Nat) (rp : Option Addr) (rn rc : Nat) (tv : Int) (w : World) (hp : PrgAt w p lp ln tp tn rp rn) (htv : 0 ≤ tv ∧ tv ≤ 255) : Calls Try.prog 15 #[.agg #[.slice lp ln lc, .int .i64 p.reserve, .slice tp tn tc, .slice rp rn rc], .int .u8 tv] w fun e w' => e = .returned (.bool true) ∧ Below w.heap.size w w' := by
  obtain ⟨T, rfl⟩ : ∃ T : Nat, tv = (T : Int) := ⟨tv.toNat, by omega⟩
  have hT : T ≤ 255 := by omega
  have HP := hid hp
  have HTH := hid (fun W (hW : Below w.heap.size w W) => thin_any p lp ln lc tp tn tc rp rn rc W (hp.below hW))
  have HFL := hid (fun W (hW : Below w.heap.size w W) => faultL_any p lp ln lc tp tn tc rp rn rc W (hp.below hW))
  have HRD := hid (fun W (hW : Below w.heap.size w W) => ready_any p lp ln lc tp tn tc rp rn rc W (hp.below hW))
  clear hp htv
  have H0 : Hid (Boxed1 w #[.slice lp ln lc, .int .i64 p.reserve, .slice tp tn tc, .slice rp rn rc] 26 (w.alloc (.cells #[.slice lp ln lc, .int .i64 p.reserve, .slice tp tn tc, .slice rp rn rc] 26))) := hid (Boxed1.start _ _ _)
  go_enter Try.func15, Try.ntmps15
  have e0 := H0.out.cell 0 (v := .slice lp ln lc) rfl; have e1 := H0.out.cell 1 (v := .int .i64 p.reserve) rfl; have e2 := H0.out.cell 2 (v := .slice tp tn tc) rfl; have e3 := H0.out.cell 3 (v := .slice rp rn rc) rfl
  go_wp2_with fail
  (with_reducible refine (HRD.out _ ?_).mono ?_)
  · exact H0.out.below
  rintro e w1 ⟨rfl, hb⟩
  have H1 := hid (H0.out.step hb)
  clear e0 e1 e2 e3 hb 
  cases hrd : readyB p
  · clear hrd
    go_wp2_with fail
    (with_reducible refine (awake_any _).mono ?_)
    rintro e w99 ⟨rfl, hb⟩
    go_wp2_with fail
    go_ret
    exact ⟨rfl, H1.out.below.trans (hb.mono H1.out.below.size)⟩
  · have HOK := hid (ready_iff.1 hrd).1; have HMY := hid (ready_iff.1 hrd).2
    have hln : ln ≤ 4 := by have := HP.out.l.1; have := HOK.out.n4; omega
    have htn : tn ≤ 5 := by have := HP.out.t.1; have := HOK.out.m5; omega
    have hrn : rn ≤ 5 := by have := HP.out.r.1; have := HOK.out.k5; omega
    have HF0 := hid (fault_iff.2 HOK.out)
    clear hrd
    have e0 := H1.out.cell 0 (v := .slice lp ln lc) rfl; have e1 := H1.out.cell 1 (v := .int .i64 p.reserve) rfl; have e2 := H1.out.cell 2 (v := .slice tp tn tc) rfl; have e3 := H1.out.cell 3 (v := .slice rp rn rc) rfl
    go_wp2_with fail
    (with_reducible refine (prog_any p lp ln lc tp tn tc rp rn rc w1 (HP.out.below H1.out.below) (by omega) (by omega) (by omega)).mono ?_)
    rintro e w2 ⟨lq1, lc1, tq1, tc1, rq1, rc1, rfl, hpx, hcx, hb⟩
    have H2 := hid (H1.out.step hb)
    have HP1 := hid hpx; have HC1 := hid hcx
    clear e0 e1 e2 e3 hb hpx hcx
    go_wp2_with fail
    refine (leave_any p lq1 ln lc1 tq1 tn tc1 rq1 rn rc1 w2 HP1.out).mono ?_
    rintro e w3 ⟨q, k9, d, rfl, hi, hb⟩
    have H3 := hid (H2.out.step hb)
    replace HP1 := hid (HP1.out.below hb)
    have hlv : leaveV p = leaveP p := by rw [leaveV, if_pos HF0.out]
    rw [hlv] at hi
    have HXI := hid hi
    rw [HF0.out]
    clear hb hi hlv
    obtain ⟨hinc, hlv, hno⟩ := left_law HOK.out
    have hrp := HP.out.r.1
    rw [← hrp] at hinc hlv hno
    have HXN := hid HXI.out.1
    obtain ⟨X, hX⟩ : ∃ X, leaveP p = X := ⟨_, rfl⟩
    rw [hX] at hinc hlv hno HXI HXN
    have HINC := hid hinc
    have hM1 := Nat.two_pow_pos rn
    have hM2 : 2 ^ rn ≤ 64 := Nat.pow_le_pow_right (n := 2) (by decide) (show rn ≤ 6 by omega)
    have HEV : Hid (everyN rn = ((2 ^ rn - 1 : Nat) : Int)) := hid rfl
    have HE64 : Hid (2 ^ rn - 1 < 64) := hid (by omega)
    obtain ⟨N, hN⟩ : ∃ N, T &&& (2 ^ rn - 1) = N := ⟨_, rfl⟩
    have hNl : N < 2 ^ rn := by rw [← hN]; exact Nat.lt_of_le_of_lt Nat.and_le_right (by have := Nat.two_pow_pos rn; omega)
    have HN12 : Hid (N < 4096) := hid (by omega)
    have HAND : Hid (bits .and .i64 (T : Int) (everyN rn) = (N : Int)) := hid (by rw [HEV.out, i64_and_nat T (2 ^ rn - 1) (by omega) (by omega), hN])
    have HNO := hid (hno N hNl)
    have hk9 : k9 ≤ 5 := by
      rw [HXN.out]
      by_cases h0 : X = []
      · rw [h0]; simp
      · have := incr_room rn X 0 HINC.out h0; omega
    rw [← HXN.out] at hlv
    have HLV := hid hlv
    clear hinc hlv hno hN hNl hX hrp hM1 hM2 HEV
    go_wp2_with fail
    go_loopw [7, 8] (fun s i wr => ∃ k : Nat, k ≤ k9 ∧ i = .int .i64 k ∧ s = .int .i64 ((setOf X k : Nat) : Int) ∧ Below w3.heap.size w3 wr) (fun _ i _ => k9 - (intOf i).toNat)
    case atStart => exact ⟨0, by omega, rfl, by rw [setOf_zero]; rfl, Below.refl _ _⟩
    case round =>
      obtain ⟨k, hk, rfl, rfl, hbw⟩ := hrel
      have HB := hid hbw
      have HBr := hid (H3.out.step hbw)
      obtain ⟨sk, hsk⟩ : ∃ a, setOf X k = a := ⟨_, rfl⟩
      have HSK := hid hsk
      rw [hsk]
      clear hsk
      by_cases hlt : k < k9
      · skip
        have hxl : k < X.length := by have := HXN.out; omega
        have hXk : X[k]? = some X[k] := List.getElem?_eq_getElem hxl
        have hmem := incr_mem HINC.out _ (List.getElem_mem hxl)
        obtain ⟨j, hj⟩ : ∃ j : Nat, X[k] = (j : Int) := ⟨X[k].toNat, by omega⟩
        rw [hj] at hXk hmem
        have hjb : j < rn := by omega
        have HXK := hid hXk
        obtain ⟨b1, o1, rfl, _, hc⟩ := (HXI.out.below hbw).at hlt
        rw [hXk] at hc
        have HCV : Hid (∀ V, Below wr.heap.size wr V → V.cell? ⟨b1, o1 + k, none⟩ = some (.int .i64 (j : Int))) := hid (fun V hV => (hV.cell (World.block_lt_of_cell? _ _ hc)).trans hc)
        have HJ : Hid (¬ (j : Int) < 0 ∧ (j : Int) < (rn : Int) ∧ ¬ rn ≤ j) := hid ⟨by omega, by omega, by omega⟩
        clear hxl hXk hmem hj hc
        have hw9 : IntKind.i64.wrap ((k : Int) + 1) = (k : Int) + 1 := IntWalk.i64_in _ (by omega)
        go_upto_region 10 with fail
        by_cases hk0 : k = 0
        · subst hk0
          have HK0 : Hid True := hid trivial
          have HCV : Hid (∀ V, Below wr.heap.size wr V → V.cell? ⟨b1, o1, none⟩ = some (.int .i64 (j : Int))) := HCV
          refine wp_region_held_drew (S := fun V => Boxed1 w #[.slice lp ln lc, .int .i64 p.reserve, .slice tp tn tc, .slice rp rn rc] 26 V ∧ Below wr.heap.size wr V) (by kernel_rfl) (⟨HBr.out.drew, (Below.refl _ _).drew⟩) (fun hS => ?_)
          simp only [List.size_toArray, List.length_cons, List.length_nil, Nat.reduceAdd, Array.replicate_succ, Array.replicate_zero, List.push_toArray, List.nil_append, List.cons_append]
          refine tkH (i := 0) (v := ?_) (fun V hV => ?_) ?_
          rotate_left
          · go_simp
            try with_reducible rfl
          try simp only [Act.put, List.getElem_toArray, List.getElem_cons_zero, List.setIfInBounds_toArray, List.set_cons_zero, List.set_cons_succ]
          refine tkH (i := 1) (v := ?_) (fun V hV => ?_) ?_
          rotate_left
          · go_simp
            try with_reducible rfl
          try simp only [Act.put, List.getElem_toArray, List.getElem_cons_zero, List.getElem_cons_succ, List.setIfInBounds_toArray, List.set_cons_zero, List.set_cons_succ]
          refine tkH (i := 2) (v := ?_) (fun V hV => ?_) ?_
          rotate_left
          · go_simp
            try with_reducible rfl
          try simp only [Act.put, List.getElem_toArray, List.getElem_cons_zero, List.getElem_cons_succ, List.setIfInBounds_toArray, List.set_cons_zero, List.set_cons_succ]
          refine tkH (i := 3) (v := ?_) (fun V hV => ?_) ?_
          rotate_left
          · have hc := HCV.out V hV.2; go_simp
            try with_reducible rfl
          try simp only [Act.put, List.getElem_toArray, List.getElem_cons_zero, List.getElem_cons_succ, List.setIfInBounds_toArray, List.set_cons_zero, List.set_cons_succ]
          refine tkH (i := 4) (v := ?_) (fun V hV => ?_) ?_
          rotate_left
          · have q1 := HJ.out.1; have q2 := HJ.out.2.1; have q3 := HJ.out.2.2; go_simp
            try with_reducible rfl
          try simp only [Act.put, List.getElem_toArray, List.getElem_cons_zero, List.getElem_cons_succ, List.setIfInBounds_toArray, List.set_cons_zero, List.set_cons_succ]
          refine tkH (i := 5) (v := ?_) (fun V hV => ?_) ?_
          rotate_left
          · go_simp
            try with_reducible rfl
          try simp only [Act.put, List.getElem_toArray, List.getElem_cons_zero, List.getElem_cons_succ, List.setIfInBounds_toArray, List.set_cons_zero, List.set_cons_succ]
          refine tkH (i := 6) (v := ?_) (fun V hV => ?_) ?_
          rotate_left
          · go_simp
            try with_reducible rfl
          try simp only [Act.put, List.getElem_toArray, List.getElem_cons_zero, List.getElem_cons_succ, List.setIfInBounds_toArray, List.set_cons_zero, List.set_cons_succ]
          refine tkH (i := 7) (v := ?_) (fun V hV => ?_) ?_
          rotate_left
          · go_simp
            try with_reducible rfl
          try simp only [Act.put, List.getElem_toArray, List.getElem_cons_zero, List.getElem_cons_succ, List.setIfInBounds_toArray, List.set_cons_zero, List.set_cons_succ]
          refine tkH (i := 8) (v := ?_) (fun V hV => ?_) ?_
          rotate_left
          · go_simp
            try with_reducible rfl
          try simp only [Act.put, List.getElem_toArray, List.getElem_cons_zero, List.getElem_cons_succ, List.setIfInBounds_toArray, List.set_cons_zero, List.set_cons_succ]
          refine tkH (i := 9) (v := ?_) (fun V hV => ?_) ?_
          rotate_left
          · have hc := HCV.out V hV.2; go_simp
            try with_reducible rfl
          try simp only [Act.put, List.getElem_toArray, List.getElem_cons_zero, List.getElem_cons_succ, List.setIfInBounds_toArray, List.set_cons_zero, List.set_cons_succ]
          refine tkH (i := 10) (v := ?_) (fun V hV => ?_) ?_
          rotate_left
          · go_simp
            try with_reducible rfl
          try simp only [Act.put, List.getElem_toArray, List.getElem_cons_zero, List.getElem_cons_succ, List.setIfInBounds_toArray, List.set_cons_zero, List.set_cons_succ]
          refine tkH (i := 11) (v := ?_) (fun V hV => ?_) ?_
          rotate_left
          · have e3 := hV.1.cell 3 (v := .slice rp rn rc) rfl; go_simp
            try with_reducible rfl
          try simp only [Act.put, List.getElem_toArray, List.getElem_cons_zero, List.getElem_cons_succ, List.setIfInBounds_toArray, List.set_cons_zero, List.set_cons_succ]
          refine tkH (i := 12) (v := ?_) (fun V hV => ?_) ?_
          rotate_left
          · go_simp
            try with_reducible rfl
          try simp only [Act.put, List.getElem_toArray, List.getElem_cons_zero, List.getElem_cons_succ, List.setIfInBounds_toArray, List.set_cons_zero, List.set_cons_succ]
          refine tkH (i := 13) (v := ?_) (fun V hV => ?_) ?_
          rotate_left
          · have q1 := HJ.out.1; have q2 := HJ.out.2.1; have q3 := HJ.out.2.2; go_simp
            try with_reducible rfl
          try simp only [Act.put, List.getElem_toArray, List.getElem_cons_zero, List.getElem_cons_succ, List.setIfInBounds_toArray, List.set_cons_zero, List.set_cons_succ]
          refine tkH (i := 14) (v := ?_) (fun V hV => ?_) ?_
          rotate_left
          · go_simp
            try with_reducible rfl
          try simp only [Act.put, List.getElem_toArray, List.getElem_cons_zero, List.getElem_cons_succ, List.setIfInBounds_toArray, List.set_cons_zero, List.set_cons_succ]
          refine tkH (i := 15) (v := ?_) (fun V hV => ?_) ?_
          rotate_left
          · go_simp
            try with_reducible rfl
          try simp only [Act.put, List.getElem_toArray, List.getElem_cons_zero, List.getElem_cons_succ, List.setIfInBounds_toArray, List.set_cons_zero, List.set_cons_succ]
          refine tkH (i := 16) (v := ?_) (fun V hV => ?_) ?_
          rotate_left
          · go_simp
            try with_reducible rfl
          try simp only [Act.put, List.getElem_toArray, List.getElem_cons_zero, List.getElem_cons_succ, List.setIfInBounds_toArray, List.set_cons_zero, List.set_cons_succ]
          refine tkH (i := 17) (v := ?_) (fun V hV => ?_) ?_
          rotate_left
          · have q3 := HK0.out; go_simp
            try with_reducible rfl
          try simp only [Act.put, List.getElem_toArray, List.getElem_cons_zero, List.getElem_cons_succ, List.setIfInBounds_toArray, List.set_cons_zero, List.set_cons_succ]
          refine tkH (i := 18) (v := ?_) (fun V hV => ?_) ?_
          rotate_left
          · go_simp
            try with_reducible rfl
          try simp only [Act.put, List.getElem_toArray, List.getElem_cons_zero, List.getElem_cons_succ, List.setIfInBounds_toArray, List.set_cons_zero, List.set_cons_succ]
          refine tkU (i := 19) ?_
          try simp only [Act.put, List.getElem_toArray, List.getElem_cons_zero, List.getElem_cons_succ, List.setIfInBounds_toArray, List.set_cons_zero, List.set_cons_succ]
          refine tkU (i := 20) ?_
          try simp only [Act.put, List.getElem_toArray, List.getElem_cons_zero, List.getElem_cons_succ, List.setIfInBounds_toArray, List.set_cons_zero, List.set_cons_succ]
          refine tkU (i := 21) ?_
          try simp only [Act.put, List.getElem_toArray, List.getElem_cons_zero, List.getElem_cons_succ, List.setIfInBounds_toArray, List.set_cons_zero, List.set_cons_succ]
          refine tkU (i := 22) ?_
          try simp only [Act.put, List.getElem_toArray, List.getElem_cons_zero, List.getElem_cons_succ, List.setIfInBounds_toArray, List.set_cons_zero, List.set_cons_succ]
          refine tkU (i := 23) ?_
          try simp only [Act.put, List.getElem_toArray, List.getElem_cons_zero, List.getElem_cons_succ, List.setIfInBounds_toArray, List.set_cons_zero, List.set_cons_succ]
          refine tkU (i := 24) ?_
          try simp only [Act.put, List.getElem_toArray, List.getElem_cons_zero, List.getElem_cons_succ, List.setIfInBounds_toArray, List.set_cons_zero, List.set_cons_succ]
          refine tkU (i := 25) ?_
          try simp only [Act.put, List.getElem_toArray, List.getElem_cons_zero, List.getElem_cons_succ, List.setIfInBounds_toArray, List.set_cons_zero, List.set_cons_succ]
          refine tkU (i := 26) ?_
          try simp only [Act.put, List.getElem_toArray, List.getElem_cons_zero, List.getElem_cons_succ, List.setIfInBounds_toArray, List.set_cons_zero, List.set_cons_succ]
          refine tkU (i := 27) ?_
          try simp only [Act.put, List.getElem_toArray, List.getElem_cons_zero, List.getElem_cons_succ, List.setIfInBounds_toArray, List.set_cons_zero, List.set_cons_succ]
          refine tkU (i := 28) ?_
          try simp only [Act.put, List.getElem_toArray, List.getElem_cons_zero, List.getElem_cons_succ, List.setIfInBounds_toArray, List.set_cons_zero, List.set_cons_succ]
          refine tkH (i := 29) (v := ?_) (fun V hV => ?_) ?_
          rotate_left
          · go_simp
            try with_reducible rfl
          try simp only [Act.put, List.getElem_toArray, List.getElem_cons_zero, List.getElem_cons_succ, List.setIfInBounds_toArray, List.set_cons_zero, List.set_cons_succ]
          refine tkH (i := 30) (v := ?_) (fun V hV => ?_) ?_
          rotate_left
          · go_simp
            try with_reducible rfl
          try simp only [Act.put, List.getElem_toArray, List.getElem_cons_zero, List.getElem_cons_succ, List.setIfInBounds_toArray, List.set_cons_zero, List.set_cons_succ]
          refine wpAnyH_done (by kernel_rfl) ?_ _
          have HS9 := hid hS
          clear hS
          have hc := HCV.out _ HS9.out.2
          have e1 : IntKind.u64.wrap (j : Int) = (j : Int) := by rw [IntKind.wrap_u64]; omega
          have e3 : IntKind.i64.wrap (2 ^ j) = 2 ^ j := IntWalk.i64_in _ (by have := pow_bd (show j ≤ 9 by omega); omega)
          have e4 : bits .or .i64 (sk : Int) (2 ^ j) = ((setOf X (0 + 1) : Nat) : Int) := by
            have h2 : ((2 ^ j : Nat) : Int) = (2 : Int) ^ j := (by simp)
            rw [← h2, i64_or_nat _ _ (by rw [← HSK.out]; exact setOf_lt _ _) (by have := Nat.pow_lt_pow_right (a := 2) (by decide) (show j < 12 by omega); omega), setOf_succ HXK.out (by omega), HSK.out]
          go_wp2
          go_roundw
          case rel => exact ⟨0 + 1, by omega, by go_num, rfl, HB.out.trans (HS9.out.2.mono HB.out.size)⟩
          case measure => simp [intOf]; omega
        · obtain ⟨kk, hkk1⟩ : ∃ a, k - 1 = a := ⟨_, rfl⟩
          have hkk : kk < k9 := by omega
          have HWK : Hid (IntKind.i64.wrap ((k : Int) - 1) = (kk : Int)) := hid (by rw [IntWalk.i64_in _ (by omega)]; omega)
          have HK0 : Hid (decide ((k : Int) > 0) = true) := hid (by simp; omega)
          have hxl2 : kk < X.length := by have := HXN.out; omega
          have hXk2 : X[kk]? = some X[kk] := List.getElem?_eq_getElem hxl2
          have hmem2 := incr_mem HINC.out _ (List.getElem_mem hxl2)
          obtain ⟨a0, ha0⟩ : ∃ j : Nat, X[kk] = (j : Int) := ⟨X[kk].toNat, by omega⟩
          rw [ha0] at hXk2
          have HJA : Hid (a0 < j) := hid (by have h := incr_get HINC.out kk _ _ hXk2 (by rw [show kk + 1 = k by omega]; exact HXK.out); omega)
          obtain ⟨b2, o2, e2, _, hc2⟩ := (HXI.out.below hbw).at hkk
          cases e2
          rw [hXk2] at hc2
          have HCW : Hid (∀ V, Below wr.heap.size wr V → V.cell? ⟨b1, o1 + kk, none⟩ = some (.int .i64 (a0 : Int))) := hid (fun V hV => (hV.cell (World.block_lt_of_cell? _ _ hc2)).trans hc2)
          clear hkk1 hxl2 hXk2 hmem2 ha0 hc2
          refine wp_region_held_drew (S := fun V => Boxed1 w #[.slice lp ln lc, .int .i64 p.reserve, .slice tp tn tc, .slice rp rn rc] 26 V ∧ Below wr.heap.size wr V) (by kernel_rfl) (⟨HBr.out.drew, (Below.refl _ _).drew⟩) (fun hS => ?_)
          simp only [List.size_toArray, List.length_cons, List.length_nil, Nat.reduceAdd, Array.replicate_succ, Array.replicate_zero, List.push_toArray, List.nil_append, List.cons_append]
          refine tkH (i := 0) (v := ?_) (fun V hV => ?_) ?_
          rotate_left
          · go_simp
            try with_reducible rfl
          try simp only [Act.put, List.getElem_toArray, List.getElem_cons_zero, List.setIfInBounds_toArray, List.set_cons_zero, List.set_cons_succ]
          refine tkH (i := 1) (v := ?_) (fun V hV => ?_) ?_
          rotate_left
          · go_simp
            try with_reducible rfl
          try simp only [Act.put, List.getElem_toArray, List.getElem_cons_zero, List.getElem_cons_succ, List.setIfInBounds_toArray, List.set_cons_zero, List.set_cons_succ]
          refine tkH (i := 2) (v := ?_) (fun V hV => ?_) ?_
          rotate_left
          · go_simp
            try with_reducible rfl
          try simp only [Act.put, List.getElem_toArray, List.getElem_cons_zero, List.getElem_cons_succ, List.setIfInBounds_toArray, List.set_cons_zero, List.set_cons_succ]
          refine tkH (i := 3) (v := ?_) (fun V hV => ?_) ?_
          rotate_left
          · have hc := HCV.out V hV.2; go_simp
            try with_reducible rfl
          try simp only [Act.put, List.getElem_toArray, List.getElem_cons_zero, List.getElem_cons_succ, List.setIfInBounds_toArray, List.set_cons_zero, List.set_cons_succ]
          refine tkH (i := 4) (v := ?_) (fun V hV => ?_) ?_
          rotate_left
          · have q1 := HJ.out.1; have q2 := HJ.out.2.1; have q3 := HJ.out.2.2; go_simp
            try with_reducible rfl
          try simp only [Act.put, List.getElem_toArray, List.getElem_cons_zero, List.getElem_cons_succ, List.setIfInBounds_toArray, List.set_cons_zero, List.set_cons_succ]
          refine tkH (i := 5) (v := ?_) (fun V hV => ?_) ?_
          rotate_left
          · go_simp
            try with_reducible rfl
          try simp only [Act.put, List.getElem_toArray, List.getElem_cons_zero, List.getElem_cons_succ, List.setIfInBounds_toArray, List.set_cons_zero, List.set_cons_succ]
          refine tkH (i := 6) (v := ?_) (fun V hV => ?_) ?_
          rotate_left
          · go_simp
            try with_reducible rfl
          try simp only [Act.put, List.getElem_toArray, List.getElem_cons_zero, List.getElem_cons_succ, List.setIfInBounds_toArray, List.set_cons_zero, List.set_cons_succ]
          refine tkH (i := 7) (v := ?_) (fun V hV => ?_) ?_
          rotate_left
          · go_simp
            try with_reducible rfl
          try simp only [Act.put, List.getElem_toArray, List.getElem_cons_zero, List.getElem_cons_succ, List.setIfInBounds_toArray, List.set_cons_zero, List.set_cons_succ]
          refine tkH (i := 8) (v := ?_) (fun V hV => ?_) ?_
          rotate_left
          · go_simp
            try with_reducible rfl
          try simp only [Act.put, List.getElem_toArray, List.getElem_cons_zero, List.getElem_cons_succ, List.setIfInBounds_toArray, List.set_cons_zero, List.set_cons_succ]
          refine tkH (i := 9) (v := ?_) (fun V hV => ?_) ?_
          rotate_left
          · have hc := HCV.out V hV.2; go_simp
            try with_reducible rfl
          try simp only [Act.put, List.getElem_toArray, List.getElem_cons_zero, List.getElem_cons_succ, List.setIfInBounds_toArray, List.set_cons_zero, List.set_cons_succ]
          refine tkH (i := 10) (v := ?_) (fun V hV => ?_) ?_
          rotate_left
          · go_simp
            try with_reducible rfl
          try simp only [Act.put, List.getElem_toArray, List.getElem_cons_zero, List.getElem_cons_succ, List.setIfInBounds_toArray, List.set_cons_zero, List.set_cons_succ]
          refine tkH (i := 11) (v := ?_) (fun V hV => ?_) ?_
          rotate_left
          · have e3 := hV.1.cell 3 (v := .slice rp rn rc) rfl; go_simp
            try with_reducible rfl
          try simp only [Act.put, List.getElem_toArray, List.getElem_cons_zero, List.getElem_cons_succ, List.setIfInBounds_toArray, List.set_cons_zero, List.set_cons_succ]
          refine tkH (i := 12) (v := ?_) (fun V hV => ?_) ?_
          rotate_left
          · go_simp
            try with_reducible rfl
          try simp only [Act.put, List.getElem_toArray, List.getElem_cons_zero, List.getElem_cons_succ, List.setIfInBounds_toArray, List.set_cons_zero, List.set_cons_succ]
          refine tkH (i := 13) (v := ?_) (fun V hV => ?_) ?_
          rotate_left
          · have q1 := HJ.out.1; have q2 := HJ.out.2.1; have q3 := HJ.out.2.2; go_simp
            try with_reducible rfl
          try simp only [Act.put, List.getElem_toArray, List.getElem_cons_zero, List.getElem_cons_succ, List.setIfInBounds_toArray, List.set_cons_zero, List.set_cons_succ]
          refine tkH (i := 14) (v := ?_) (fun V hV => ?_) ?_
          rotate_left
          · go_simp
            try with_reducible rfl
          try simp only [Act.put, List.getElem_toArray, List.getElem_cons_zero, List.getElem_cons_succ, List.setIfInBounds_toArray, List.set_cons_zero, List.set_cons_succ]
          refine tkH (i := 15) (v := ?_) (fun V hV => ?_) ?_
          rotate_left
          · go_simp
            try with_reducible rfl
          try simp only [Act.put, List.getElem_toArray, List.getElem_cons_zero, List.getElem_cons_succ, List.setIfInBounds_toArray, List.set_cons_zero, List.set_cons_succ]
          refine tkH (i := 16) (v := ?_) (fun V hV => ?_) ?_
          rotate_left
          · go_simp
            try with_reducible rfl
          try simp only [Act.put, List.getElem_toArray, List.getElem_cons_zero, List.getElem_cons_succ, List.setIfInBounds_toArray, List.set_cons_zero, List.set_cons_succ]
          refine tkH (i := 17) (v := ?_) (fun V hV => ?_) ?_
          rotate_left
          · have q3 := HK0.out; have q8 : 0 < k := (by omega); have q9 : (0 : Int) < (k : Int) := (by omega); go_simp
            try with_reducible rfl
          try simp only [Act.put, List.getElem_toArray, List.getElem_cons_zero, List.getElem_cons_succ, List.setIfInBounds_toArray, List.set_cons_zero, List.set_cons_succ]
          refine tkH (i := 18) (v := ?_) (fun V hV => ?_) ?_
          rotate_left
          · go_simp
            try with_reducible rfl
          try simp only [Act.put, List.getElem_toArray, List.getElem_cons_zero, List.getElem_cons_succ, List.setIfInBounds_toArray, List.set_cons_zero, List.set_cons_succ]
          refine tkH (i := 19) (v := ?_) (fun V hV => ?_) ?_
          rotate_left
          · go_simp
            try with_reducible rfl
          try simp only [Act.put, List.getElem_toArray, List.getElem_cons_zero, List.getElem_cons_succ, List.setIfInBounds_toArray, List.set_cons_zero, List.set_cons_succ]
          refine tkH (i := 20) (v := ?_) (fun V hV => ?_) ?_
          rotate_left
          · go_simp
            try with_reducible rfl
          try simp only [Act.put, List.getElem_toArray, List.getElem_cons_zero, List.getElem_cons_succ, List.setIfInBounds_toArray, List.set_cons_zero, List.set_cons_succ]
          refine tkH (i := 21) (v := ?_) (fun V hV => ?_) ?_
          rotate_left
          · go_simp
            try with_reducible rfl
          try simp only [Act.put, List.getElem_toArray, List.getElem_cons_zero, List.getElem_cons_succ, List.setIfInBounds_toArray, List.set_cons_zero, List.set_cons_succ]
          refine tkH (i := 22) (v := ?_) (fun V hV => ?_) ?_
          rotate_left
          · have hc := HCV.out V hV.2; go_simp
            try with_reducible rfl
          try simp only [Act.put, List.getElem_toArray, List.getElem_cons_zero, List.getElem_cons_succ, List.setIfInBounds_toArray, List.set_cons_zero, List.set_cons_succ]
          refine tkH (i := 23) (v := ?_) (fun V hV => ?_) ?_
          rotate_left
          · go_simp
            try with_reducible rfl
          try simp only [Act.put, List.getElem_toArray, List.getElem_cons_zero, List.getElem_cons_succ, List.setIfInBounds_toArray, List.set_cons_zero, List.set_cons_succ]
          refine tkH (i := 24) (v := ?_) (fun V hV => ?_) ?_
          rotate_left
          · go_simp
            try with_reducible rfl
          try simp only [Act.put, List.getElem_toArray, List.getElem_cons_zero, List.getElem_cons_succ, List.setIfInBounds_toArray, List.set_cons_zero, List.set_cons_succ]
          refine tkH (i := 25) (v := ?_) (fun V hV => ?_) ?_
          rotate_left
          · have q4 := HWK.out; go_simp
            try with_reducible rfl
          try simp only [Act.put, List.getElem_toArray, List.getElem_cons_zero, List.getElem_cons_succ, List.setIfInBounds_toArray, List.set_cons_zero, List.set_cons_succ]
          refine tkH (i := 26) (v := ?_) (fun V hV => ?_) ?_
          rotate_left
          · have q4 := HWK.out; go_simp
            try with_reducible rfl
          try simp only [Act.put, List.getElem_toArray, List.getElem_cons_zero, List.getElem_cons_succ, List.setIfInBounds_toArray, List.set_cons_zero, List.set_cons_succ]
          refine tkH (i := 27) (v := ?_) (fun V hV => ?_) ?_
          rotate_left
          · have hc := HCW.out V hV.2; go_simp
            try with_reducible rfl
          try simp only [Act.put, List.getElem_toArray, List.getElem_cons_zero, List.getElem_cons_succ, List.setIfInBounds_toArray, List.set_cons_zero, List.set_cons_succ]
          refine tkH (i := 28) (v := ?_) (fun V hV => ?_) ?_
          rotate_left
          · have q5 := HJA.out; have q6 : ¬ j ≤ a0 := (by omega); have q7 : ¬ (j : Int) ≤ (a0 : Int) := (by omega); go_simp
            try with_reducible rfl
          try simp only [Act.put, List.getElem_toArray, List.getElem_cons_zero, List.getElem_cons_succ, List.setIfInBounds_toArray, List.set_cons_zero, List.set_cons_succ]
          refine tkH (i := 29) (v := ?_) (fun V hV => ?_) ?_
          rotate_left
          · go_simp
            try with_reducible rfl
          try simp only [Act.put, List.getElem_toArray, List.getElem_cons_zero, List.getElem_cons_succ, List.setIfInBounds_toArray, List.set_cons_zero, List.set_cons_succ]
          refine tkH (i := 30) (v := ?_) (fun V hV => ?_) ?_
          rotate_left
          · go_simp
            try with_reducible rfl
          try simp only [Act.put, List.getElem_toArray, List.getElem_cons_zero, List.getElem_cons_succ, List.setIfInBounds_toArray, List.set_cons_zero, List.set_cons_succ]
          refine wpAnyH_done (by kernel_rfl) ?_ _
          have HS9 := hid hS
          clear hS
          have hc := HCV.out _ HS9.out.2
          have e1 : IntKind.u64.wrap (j : Int) = (j : Int) := by rw [IntKind.wrap_u64]; omega
          have e3 : IntKind.i64.wrap (2 ^ j) = 2 ^ j := IntWalk.i64_in _ (by have := pow_bd (show j ≤ 9 by omega); omega)
          have e4 : bits .or .i64 (sk : Int) (2 ^ j) = ((setOf X (k + 1) : Nat) : Int) := by
            have h2 : ((2 ^ j : Nat) : Int) = (2 : Int) ^ j := (by simp)
            rw [← h2, i64_or_nat _ _ (by rw [← HSK.out]; exact setOf_lt _ _) (by have := Nat.pow_lt_pow_right (a := 2) (by decide) (show j < 12 by omega); omega), setOf_succ HXK.out (by omega), HSK.out]
          go_wp2
          go_roundw
          case rel => exact ⟨k + 1, by omega, by go_num, rfl, HB.out.trans (HS9.out.2.mono HB.out.size)⟩
          case measure => simp [intOf]; omega
      · skip
        have hkk : k9 = k := by omega
        subst hkk
        have H4 := hid HBr.out; replace HXI := hid (HXI.out.below HB.out)
        clear HBr HB hbw
        obtain ⟨w4, hw⟩ : ∃ V, V = wr := ⟨_, rfl⟩
        subst hw
        rw [← HSK.out]
        have hs4 : sk < 4096 := by rw [← HSK.out]; exact setOf_lt _ _
        rw [HSK.out] at HLV ⊢
        clear HSK
        have hand := HAND.out
        have hcv : IntKind.i64.wrap (T : Int) = (T : Int) := IntWalk.i64_in _ (by omega)
        have e0 := H4.out.cell 0 (v := .slice lp ln lc) rfl; have e1 := H4.out.cell 1 (v := .int .i64 p.reserve) rfl; have e2 := H4.out.cell 2 (v := .slice tp tn tc) rfl; have e3 := H4.out.cell 3 (v := .slice rp rn rc) rfl
        go_wp2_with fail
        refine (full_any p lp ln lc tp tn tc rp rn rc w4 (by omega)).mono ?_
        rintro e w5 ⟨rfl, hb⟩
        have H5 := hid (H4.out.step hb)
        replace HXI := hid (HXI.out.below hb)
        clear e0 e1 e2 e3 hb 
        have HAN14 : Hid (bits .andNot .i64 (everyN rn) (sk : Int) = ((andN (2 ^ rn - 1) sk : Nat) : Int)) := hid (i64_andnot_nat _ _ (by have := HE64.out; omega))
        have HAN15 : Hid (bits .andNot .i64 (everyN rn) (N : Int) = ((andN (2 ^ rn - 1) N : Nat) : Int)) := hid (i64_andnot_nat _ _ (by have := HE64.out; omega))
        have HER1 : Hid (errP (someP p ((andN (2 ^ rn - 1) sk : Nat) : Int)) = 0) := hid (by rw [err_some HOK.out, HLV.out]; rfl)
        clear HLV HAND
        go_upto_region 14 with fail
        go_cut [10, 11] from 14 (fun a10 a11 wr => ∃ b, a10 = .pointer (some ⟨b, 0, none⟩) ∧ a11 = .int .i64 0 ∧ Boxed1 w #[.slice lp ln lc, .int .i64 p.reserve, .slice tp tn tc, .slice rp rn rc] 26 wr ∧ Below w5.heap.size w5 wr)
        case first =>
          obtain ⟨wd, hwd⟩ : ∃ V, w5.drew = V := ⟨_, rfl⟩
          have HD := hid H5.out.drew
          rw [hwd] at HD
          have HWD : Hid (Below w5.heap.size w5 wd) := hid (by rw [← hwd]; exact (Below.refl _ _).drew)
          refine wp_region_held_drew (S := fun V => Boxed1 w #[.slice lp ln lc, .int .i64 p.reserve, .slice tp tn tc, .slice rp rn rc] 26 V ∧ Below wd.heap.size wd V) (by kernel_rfl) (by rw [hwd]; exact ⟨HD.out, Below.refl _ _⟩) (fun hS => ?_)
          rw [hwd] at hS ⊢
          clear hwd
          simp only [List.size_toArray, List.length_cons, List.length_nil, Nat.reduceAdd, Array.replicate_succ, Array.replicate_zero, List.push_toArray, List.nil_append, List.cons_append]
          refine tkH (i := 0) (v := ?_) (fun V hV => ?_) ?_
          rotate_left
          · have e0 := hV.1.cell 0 (v := .slice lp ln lc) rfl; have e1 := hV.1.cell 1 (v := .int .i64 p.reserve) rfl; have e2 := hV.1.cell 2 (v := .slice tp tn tc) rfl; have e3 := hV.1.cell 3 (v := .slice rp rn rc) rfl; go_simp
            try with_reducible rfl
          try simp only [Act.put, List.getElem_toArray, List.getElem_cons_zero, List.setIfInBounds_toArray, List.set_cons_zero, List.set_cons_succ]
          refine tkH (i := 1) (v := ?_) (fun V hV => ?_) ?_
          rotate_left
          · have e0 := hV.1.cell 0 (v := .slice lp ln lc) rfl; have e1 := hV.1.cell 1 (v := .int .i64 p.reserve) rfl; have e2 := hV.1.cell 2 (v := .slice tp tn tc) rfl; have e3 := hV.1.cell 3 (v := .slice rp rn rc) rfl; go_simp
            try with_reducible rfl
          try simp only [Act.put, List.getElem_toArray, List.getElem_cons_zero, List.getElem_cons_succ, List.setIfInBounds_toArray, List.set_cons_zero, List.set_cons_succ]
          refine tkH (i := 3) (v := ?_) (fun V hV => ?_) ?_
          rotate_left
          · go_simp
            try with_reducible rfl
          try simp only [Act.put, List.getElem_toArray, List.getElem_cons_zero, List.getElem_cons_succ, List.setIfInBounds_toArray, List.set_cons_zero, List.set_cons_succ]
          refine wpAnyH_ready (rs := [2, 11]) (by kernel_rfl) (by simp) ?_
          refine AllReadyH.cons (o := _) rfl (fun K hK => ?_) ?_
          · skip
            go_simp
            (with_reducible refine (full_any p lp ln lc tp tn tc rp rn rc _ (by omega)).mono ?_)
            rintro e v2 ⟨rfl, hb⟩
            refine hK.out _ _ (⟨hS.1.step hb, hS.2.trans (hb.mono hS.2.size)⟩) (fun hS => ?_)
            clear hK K
            try simp only [List.setIfInBounds_toArray, List.set_cons_zero, List.set_cons_succ]
            refine tkH (i := 4) (v := ?_) (fun V hV => ?_) ?_
            rotate_left
            · have q1 := HAN14.out; go_simp
              try with_reducible rfl
            try simp only [Act.put, List.getElem_toArray, List.getElem_cons_zero, List.getElem_cons_succ, List.setIfInBounds_toArray, List.set_cons_zero, List.set_cons_succ]
            refine wpAnyH_ready (rs := [5, 11]) (by kernel_rfl) (by simp) ?_
            refine AllReadyH.cons (o := _) rfl (fun K hK => ?_) ?_
            · skip
              go_simp
              refine (some_any p lp ln lc tp tn tc rp rn rc ((andN (2 ^ rn - 1) sk : Nat) : Int) _ (HP.out.below hS.1.below) (by omega) (by omega) (by have := andN_lt (2 ^ rn - 1) sk; omega)).mono ?_
              rintro e v5 ⟨q3, n3, d3, rfl, hps, hcs, hb⟩
              have HSM := hid hps
              clear hps hcs
              refine hK.out _ _ (⟨hS.1.step hb, hS.2.trans (hb.mono hS.2.size)⟩) (fun hS => ?_)
              clear hK K
              try simp only [List.setIfInBounds_toArray, List.set_cons_zero, List.set_cons_succ]
              refine wpAnyH_ready (rs := [6, 11]) (by kernel_rfl) (by simp) ?_
              refine AllReadyH.cons (o := _) rfl (fun K hK => ?_) ?_
              · skip
                have hn3 := some_n HOK.out HSM.out
                go_simp
                refine (prog_any (someP p ((andN (2 ^ rn - 1) sk : Nat) : Int)) lp ln lc tp tn tc q3 n3 d3 _ HSM.out (by omega) (by omega) (by omega)).mono ?_
                rintro e v6 ⟨lqq, lcc, tqq, tcc, rqq, rcc, rfl, hpx, hcx, hb⟩
                have HPX := hid hpx
                clear hpx hcx
                replace HSM := hid (HSM.out.below hb)
                refine hK.out _ _ (⟨hS.1.step hb, hS.2.trans (hb.mono hS.2.size)⟩) (fun hS => ?_)
                clear hK K
                try simp only [List.setIfInBounds_toArray, List.set_cons_zero, List.set_cons_succ]
                refine wpAnyH_ready (rs := [7, 11]) (by kernel_rfl) (by simp) ?_
                refine AllReadyH.cons (o := _) rfl (fun K hK => ?_) ?_
                · skip
                  go_simp
                  refine (net_any (someP p ((andN (2 ^ rn - 1) sk : Nat) : Int)) lqq ln lcc tqq tn tcc rqq n3 rcc _ HPX.out).mono ?_
                  rintro e v7 ⟨rfl, hb⟩
                  obtain ⟨R, hR⟩ : ∃ R, netP (someP p ((andN (2 ^ rn - 1) sk : Nat) : Int)) = R := ⟨_, rfl⟩
                  rw [hR, HER1.out]
                  clear hR
                  replace HPX := hid (HPX.out.below hb)
                  refine hK.out _ _ (⟨hS.1.step hb, hS.2.trans (hb.mono hS.2.size)⟩) (fun hS => ?_)
                  clear hK K
                  try simp only [List.setIfInBounds_toArray, List.set_cons_zero, List.set_cons_succ]
                  refine tkH (i := 8) (v := ?_) (fun V hV => ?_) ?_
                  rotate_left
                  · go_simp
                    try with_reducible rfl
                  try simp only [Act.put, List.getElem_toArray, List.getElem_cons_zero, List.getElem_cons_succ, List.setIfInBounds_toArray, List.set_cons_zero, List.set_cons_succ]
                  refine tkH (i := 9) (v := ?_) (fun V hV => ?_) ?_
                  rotate_left
                  · go_simp
                    try with_reducible rfl
                  try simp only [Act.put, List.getElem_toArray, List.getElem_cons_zero, List.getElem_cons_succ, List.setIfInBounds_toArray, List.set_cons_zero, List.set_cons_succ]
                  refine tkH (i := 10) (v := ?_) (fun V hV => ?_) ?_
                  rotate_left
                  · go_simp
                    try with_reducible rfl
                  try simp only [Act.put, List.getElem_toArray, List.getElem_cons_zero, List.getElem_cons_succ, List.setIfInBounds_toArray, List.set_cons_zero, List.set_cons_succ]
                  refine wpAnyH_ready (rs := [11]) (by kernel_rfl) (by simp) ?_
                  refine AllReadyH.cons (o := _) rfl (fun K hK => ?_) AllReadyH.nil
                  obtain ⟨v11, hv11⟩ : ∃ V, v7.alloc (.cells #[.int .i64 0, .int .i64 0] 51) = V := ⟨_, rfl⟩
                  have hb : Below v7.heap.size v7 v11 := by rw [← hv11]; exact (Below.refl _ _).alloc (Nat.le_refl _) _
                  have HNX : Hid (BoxIs v7.heap.size #[.int .i64 0, .int .i64 0] v11) := hid (by rw [← hv11]; exact BoxIs.start _ _ _)
                  have HLHNX : Hid (wd.heap.size ≤ v7.heap.size) := hid hS.2.size
                  have HS3 := hid (show Boxed1 w #[.slice lp ln lc, .int .i64 p.reserve, .slice tp tn tc, .slice rp rn rc] 26 v11 ∧ Below wd.heap.size wd v11 from ⟨hS.1.step hb, hS.2.trans (hb.mono hS.2.size)⟩)
                  clear hS hb
                  go_simp
                  clear hv11
                  refine hK.out _ _ (HS3.out) (fun hS => ?_)
                  clear hK K
                  try simp only [List.setIfInBounds_toArray, List.set_cons_zero, List.set_cons_succ]
                  refine wpAnyH_ready (rs := [12]) (by kernel_rfl) (by simp) ?_
                  refine AllReadyH.cons (o := _) rfl (fun K hK => ?_) AllReadyH.nil
                  have k0 := (HNX.out.2 0 (.int .i64 0) rfl).1; have f0 := (HNX.out.2 0 (.int .i64 0) rfl).2
                  have k1 := (HNX.out.2 1 (.int .i64 0) rfl).1; have f1 := (HNX.out.2 1 (.int .i64 0) rfl).2
                  have HP : Hid (BoxIs v7.heap.size #[.int .i64 R.lo, .int .i64 R.hi] ((v11.setCell ⟨v7.heap.size, 0, none⟩ (.int .i64 R.lo)).setCell ⟨v7.heap.size, 1, none⟩ (.int .i64 R.hi))) := hid ((HNX.out.put (j := 0) (.int .i64 R.lo)).put (j := 1) (.int .i64 R.hi))
                  have HNQ := hid (((Near.refl (fun i => i = v7.heap.size) v11).setCell (p := ⟨v7.heap.size, 0, none⟩) (fun _ => rfl) (.int .i64 R.lo)).setCell (p := ⟨v7.heap.size, 1, none⟩) (fun _ => rfl) (.int .i64 R.hi))
                  have HSW := hid (hS.1.step' ((((Below.refl wd.heap.size v11).setCell (p := ⟨v7.heap.size, 0, none⟩) HLHNX.out (.int .i64 R.lo)).setCell (p := ⟨v7.heap.size, 1, none⟩) HLHNX.out (.int .i64 R.hi)).mono HD.out.size))
                  have HSB := hid (hS.2.trans (((Below.refl wd.heap.size v11).setCell (p := ⟨v7.heap.size, 0, none⟩) HLHNX.out (.int .i64 R.lo)).setCell (p := ⟨v7.heap.size, 1, none⟩) HLHNX.out (.int .i64 R.hi)))
                  clear hS
                  go_simp
                  clear k0 f0 k1 f1
                  generalize ((v11.setCell ⟨v7.heap.size, 0, none⟩ (.int .i64 R.lo)).setCell ⟨v7.heap.size, 1, none⟩ (.int .i64 R.hi)) = v12 at HP HSW HSB HNQ   ⊢
                  replace HNX := HP
                  clear HNQ
                  refine hK.out _ _ (⟨HSW.out, HSB.out⟩) (fun hS => ?_)
                  clear hK K
                  try simp only [List.setIfInBounds_toArray, List.set_cons_zero, List.set_cons_succ]
                  refine tkH (i := 13) (v := ?_) (fun V hV => ?_) ?_
                  rotate_left
                  · go_simp
                    try with_reducible rfl
                  try simp only [Act.put, List.getElem_toArray, List.getElem_cons_zero, List.getElem_cons_succ, List.setIfInBounds_toArray, List.set_cons_zero, List.set_cons_succ]
                  refine wpAnyH_done (by kernel_rfl) ?_ _
                  go_wp2
                  go_meet
                  case rel => exact ⟨_, rfl, rfl, hS.1, HWD.out.trans (hS.2.mono HWD.out.size)⟩
                refine AllReadyH.cons (o := _) rfl (fun K hK => ?_) AllReadyH.nil
                obtain ⟨v11, hv11⟩ : ∃ V, v6.alloc (.cells #[.int .i64 0, .int .i64 0] 51) = V := ⟨_, rfl⟩
                have hb : Below v6.heap.size v6 v11 := by rw [← hv11]; exact (Below.refl _ _).alloc (Nat.le_refl _) _
                have HNX : Hid (BoxIs v6.heap.size #[.int .i64 0, .int .i64 0] v11) := hid (by rw [← hv11]; exact BoxIs.start _ _ _)
                have HLHNX : Hid (wd.heap.size ≤ v6.heap.size) := hid hS.2.size
                replace HPX := hid (HPX.out.below hb)
                have HS3 := hid (show Boxed1 w #[.slice lp ln lc, .int .i64 p.reserve, .slice tp tn tc, .slice rp rn rc] 26 v11 ∧ Below wd.heap.size wd v11 from ⟨hS.1.step hb, hS.2.trans (hb.mono hS.2.size)⟩)
                clear hS hb
                go_simp
                clear hv11
                refine hK.out _ _ (HS3.out) (fun hS => ?_)
                clear hK K
                try simp only [List.setIfInBounds_toArray, List.set_cons_zero, List.set_cons_succ]
                refine wpAnyH_ready (rs := [7]) (by kernel_rfl) (by simp) ?_
                refine AllReadyH.cons (o := _) rfl (fun K hK => ?_) AllReadyH.nil
                go_simp
                refine (net_any (someP p ((andN (2 ^ rn - 1) sk : Nat) : Int)) lqq ln lcc tqq tn tcc rqq n3 rcc _ HPX.out).mono ?_
                rintro e v7 ⟨rfl, hb⟩
                obtain ⟨R, hR⟩ : ∃ R, netP (someP p ((andN (2 ^ rn - 1) sk : Nat) : Int)) = R := ⟨_, rfl⟩
                rw [hR, HER1.out]
                clear hR
                replace HNX := hid (HNX.out.below hb)
                replace HPX := hid (HPX.out.below hb)
                refine hK.out _ _ (⟨hS.1.step hb, hS.2.trans (hb.mono hS.2.size)⟩) (fun hS => ?_)
                clear hK K
                try simp only [List.setIfInBounds_toArray, List.set_cons_zero, List.set_cons_succ]
                refine tkH (i := 8) (v := ?_) (fun V hV => ?_) ?_
                rotate_left
                · go_simp
                  try with_reducible rfl
                try simp only [Act.put, List.getElem_toArray, List.getElem_cons_zero, List.getElem_cons_succ, List.setIfInBounds_toArray, List.set_cons_zero, List.set_cons_succ]
                refine tkH (i := 9) (v := ?_) (fun V hV => ?_) ?_
                rotate_left
                · go_simp
                  try with_reducible rfl
                try simp only [Act.put, List.getElem_toArray, List.getElem_cons_zero, List.getElem_cons_succ, List.setIfInBounds_toArray, List.set_cons_zero, List.set_cons_succ]
                refine tkH (i := 10) (v := ?_) (fun V hV => ?_) ?_
                rotate_left
                · go_simp
                  try with_reducible rfl
                try simp only [Act.put, List.getElem_toArray, List.getElem_cons_zero, List.getElem_cons_succ, List.setIfInBounds_toArray, List.set_cons_zero, List.set_cons_succ]
                refine wpAnyH_ready (rs := [12]) (by kernel_rfl) (by simp) ?_
                refine AllReadyH.cons (o := _) rfl (fun K hK => ?_) AllReadyH.nil
                have k0 := (HNX.out.2 0 (.int .i64 0) rfl).1; have f0 := (HNX.out.2 0 (.int .i64 0) rfl).2
                have k1 := (HNX.out.2 1 (.int .i64 0) rfl).1; have f1 := (HNX.out.2 1 (.int .i64 0) rfl).2
                have HP : Hid (BoxIs v6.heap.size #[.int .i64 R.lo, .int .i64 R.hi] ((v7.setCell ⟨v6.heap.size, 0, none⟩ (.int .i64 R.lo)).setCell ⟨v6.heap.size, 1, none⟩ (.int .i64 R.hi))) := hid ((HNX.out.put (j := 0) (.int .i64 R.lo)).put (j := 1) (.int .i64 R.hi))
                have HNQ := hid (((Near.refl (fun i => i = v6.heap.size) v7).setCell (p := ⟨v6.heap.size, 0, none⟩) (fun _ => rfl) (.int .i64 R.lo)).setCell (p := ⟨v6.heap.size, 1, none⟩) (fun _ => rfl) (.int .i64 R.hi))
                have HSW := hid (hS.1.step' ((((Below.refl wd.heap.size v7).setCell (p := ⟨v6.heap.size, 0, none⟩) HLHNX.out (.int .i64 R.lo)).setCell (p := ⟨v6.heap.size, 1, none⟩) HLHNX.out (.int .i64 R.hi)).mono HD.out.size))
                have HSB := hid (hS.2.trans (((Below.refl wd.heap.size v7).setCell (p := ⟨v6.heap.size, 0, none⟩) HLHNX.out (.int .i64 R.lo)).setCell (p := ⟨v6.heap.size, 1, none⟩) HLHNX.out (.int .i64 R.hi)))
                clear hS
                go_simp
                clear k0 f0 k1 f1
                generalize ((v7.setCell ⟨v6.heap.size, 0, none⟩ (.int .i64 R.lo)).setCell ⟨v6.heap.size, 1, none⟩ (.int .i64 R.hi)) = v12 at HP HSW HSB HNQ   ⊢
                replace HNX := HP
                clear HNQ
                refine hK.out _ _ (⟨HSW.out, HSB.out⟩) (fun hS => ?_)
                clear hK K
                try simp only [List.setIfInBounds_toArray, List.set_cons_zero, List.set_cons_succ]
                refine tkH (i := 13) (v := ?_) (fun V hV => ?_) ?_
                rotate_left
                · go_simp
                  try with_reducible rfl
                try simp only [Act.put, List.getElem_toArray, List.getElem_cons_zero, List.getElem_cons_succ, List.setIfInBounds_toArray, List.set_cons_zero, List.set_cons_succ]
                refine wpAnyH_done (by kernel_rfl) ?_ _
                go_wp2
                go_meet
                case rel => exact ⟨_, rfl, rfl, hS.1, HWD.out.trans (hS.2.mono HWD.out.size)⟩
              refine AllReadyH.cons (o := _) rfl (fun K hK => ?_) AllReadyH.nil
              obtain ⟨v11, hv11⟩ : ∃ V, v5.alloc (.cells #[.int .i64 0, .int .i64 0] 51) = V := ⟨_, rfl⟩
              have hb : Below v5.heap.size v5 v11 := by rw [← hv11]; exact (Below.refl _ _).alloc (Nat.le_refl _) _
              have HNX : Hid (BoxIs v5.heap.size #[.int .i64 0, .int .i64 0] v11) := hid (by rw [← hv11]; exact BoxIs.start _ _ _)
              have HLHNX : Hid (wd.heap.size ≤ v5.heap.size) := hid hS.2.size
              replace HSM := hid (HSM.out.below hb)
              have HS3 := hid (show Boxed1 w #[.slice lp ln lc, .int .i64 p.reserve, .slice tp tn tc, .slice rp rn rc] 26 v11 ∧ Below wd.heap.size wd v11 from ⟨hS.1.step hb, hS.2.trans (hb.mono hS.2.size)⟩)
              clear hS hb
              go_simp
              clear hv11
              refine hK.out _ _ (HS3.out) (fun hS => ?_)
              clear hK K
              try simp only [List.setIfInBounds_toArray, List.set_cons_zero, List.set_cons_succ]
              refine wpAnyH_ready (rs := [6]) (by kernel_rfl) (by simp) ?_
              refine AllReadyH.cons (o := _) rfl (fun K hK => ?_) AllReadyH.nil
              have hn3 := some_n HOK.out HSM.out
              go_simp
              refine (prog_any (someP p ((andN (2 ^ rn - 1) sk : Nat) : Int)) lp ln lc tp tn tc q3 n3 d3 _ HSM.out (by omega) (by omega) (by omega)).mono ?_
              rintro e v6 ⟨lqq, lcc, tqq, tcc, rqq, rcc, rfl, hpx, hcx, hb⟩
              have HPX := hid hpx
              clear hpx hcx
              replace HNX := hid (HNX.out.below hb)
              replace HSM := hid (HSM.out.below hb)
              refine hK.out _ _ (⟨hS.1.step hb, hS.2.trans (hb.mono hS.2.size)⟩) (fun hS => ?_)
              clear hK K
              try simp only [List.setIfInBounds_toArray, List.set_cons_zero, List.set_cons_succ]
              refine wpAnyH_ready (rs := [7]) (by kernel_rfl) (by simp) ?_
              refine AllReadyH.cons (o := _) rfl (fun K hK => ?_) AllReadyH.nil
              go_simp
              refine (net_any (someP p ((andN (2 ^ rn - 1) sk : Nat) : Int)) lqq ln lcc tqq tn tcc rqq n3 rcc _ HPX.out).mono ?_
              rintro e v7 ⟨rfl, hb⟩
              obtain ⟨R, hR⟩ : ∃ R, netP (someP p ((andN (2 ^ rn - 1) sk : Nat) : Int)) = R := ⟨_, rfl⟩
              rw [hR, HER1.out]
              clear hR
              replace HNX := hid (HNX.out.below hb)
              replace HPX := hid (HPX.out.below hb)
              refine hK.out _ _ (⟨hS.1.step hb, hS.2.trans (hb.mono hS.2.size)⟩) (fun hS => ?_)
              clear hK K
              try simp only [List.setIfInBounds_toArray, List.set_cons_zero, List.set_cons_succ]
              refine tkH (i := 8) (v := ?_) (fun V hV => ?_) ?_
              rotate_left
              · go_simp
                try with_reducible rfl
              try simp only [Act.put, List.getElem_toArray, List.getElem_cons_zero, List.getElem_cons_succ, List.setIfInBounds_toArray, List.set_cons_zero, List.set_cons_succ]
              refine tkH (i := 9) (v := ?_) (fun V hV => ?_) ?_
              rotate_left
              · go_simp
                try with_reducible rfl
              try simp only [Act.put, List.getElem_toArray, List.getElem_cons_zero, List.getElem_cons_succ, List.setIfInBounds_toArray, List.set_cons_zero, List.set_cons_succ]
              refine tkH (i := 10) (v := ?_) (fun V hV => ?_) ?_
              rotate_left
              · go_simp
                try with_reducible rfl
              try simp only [Act.put, List.getElem_toArray, List.getElem_cons_zero, List.getElem_cons_succ, List.setIfInBounds_toArray, List.set_cons_zero, List.set_cons_succ]
              refine wpAnyH_ready (rs := [12]) (by kernel_rfl) (by simp) ?_
              refine AllReadyH.cons (o := _) rfl (fun K hK => ?_) AllReadyH.nil
              have k0 := (HNX.out.2 0 (.int .i64 0) rfl).1; have f0 := (HNX.out.2 0 (.int .i64 0) rfl).2
              have k1 := (HNX.out.2 1 (.int .i64 0) rfl).1; have f1 := (HNX.out.2 1 (.int .i64 0) rfl).2
              have HP : Hid (BoxIs v5.heap.size #[.int .i64 R.lo, .int .i64 R.hi] ((v7.setCell ⟨v5.heap.size, 0, none⟩ (.int .i64 R.lo)).setCell ⟨v5.heap.size, 1, none⟩ (.int .i64 R.hi))) := hid ((HNX.out.put (j := 0) (.int .i64 R.lo)).put (j := 1) (.int .i64 R.hi))
              have HNQ := hid (((Near.refl (fun i => i = v5.heap.size) v7).setCell (p := ⟨v5.heap.size, 0, none⟩) (fun _ => rfl) (.int .i64 R.lo)).setCell (p := ⟨v5.heap.size, 1, none⟩) (fun _ => rfl) (.int .i64 R.hi))
              have HSW := hid (hS.1.step' ((((Below.refl wd.heap.size v7).setCell (p := ⟨v5.heap.size, 0, none⟩) HLHNX.out (.int .i64 R.lo)).setCell (p := ⟨v5.heap.size, 1, none⟩) HLHNX.out (.int .i64 R.hi)).mono HD.out.size))
              have HSB := hid (hS.2.trans (((Below.refl wd.heap.size v7).setCell (p := ⟨v5.heap.size, 0, none⟩) HLHNX.out (.int .i64 R.lo)).setCell (p := ⟨v5.heap.size, 1, none⟩) HLHNX.out (.int .i64 R.hi)))
              clear hS
              go_simp
              clear k0 f0 k1 f1
              generalize ((v7.setCell ⟨v5.heap.size, 0, none⟩ (.int .i64 R.lo)).setCell ⟨v5.heap.size, 1, none⟩ (.int .i64 R.hi)) = v12 at HP HSW HSB HNQ   ⊢
              replace HNX := HP
              clear HNQ
              refine hK.out _ _ (⟨HSW.out, HSB.out⟩) (fun hS => ?_)
              clear hK K
              try simp only [List.setIfInBounds_toArray, List.set_cons_zero, List.set_cons_succ]
              refine tkH (i := 13) (v := ?_) (fun V hV => ?_) ?_
              rotate_left
              · go_simp
                try with_reducible rfl
              try simp only [Act.put, List.getElem_toArray, List.getElem_cons_zero, List.getElem_cons_succ, List.setIfInBounds_toArray, List.set_cons_zero, List.set_cons_succ]
              refine wpAnyH_done (by kernel_rfl) ?_ _
              go_wp2
              go_meet
              case rel => exact ⟨_, rfl, rfl, hS.1, HWD.out.trans (hS.2.mono HWD.out.size)⟩
            refine AllReadyH.cons (o := _) rfl (fun K hK => ?_) AllReadyH.nil
            obtain ⟨v11, hv11⟩ : ∃ V, v2.alloc (.cells #[.int .i64 0, .int .i64 0] 51) = V := ⟨_, rfl⟩
            have hb : Below v2.heap.size v2 v11 := by rw [← hv11]; exact (Below.refl _ _).alloc (Nat.le_refl _) _
            have HNX : Hid (BoxIs v2.heap.size #[.int .i64 0, .int .i64 0] v11) := hid (by rw [← hv11]; exact BoxIs.start _ _ _)
            have HLHNX : Hid (wd.heap.size ≤ v2.heap.size) := hid hS.2.size
            have HS3 := hid (show Boxed1 w #[.slice lp ln lc, .int .i64 p.reserve, .slice tp tn tc, .slice rp rn rc] 26 v11 ∧ Below wd.heap.size wd v11 from ⟨hS.1.step hb, hS.2.trans (hb.mono hS.2.size)⟩)
            clear hS hb
            go_simp
            clear hv11
            refine hK.out _ _ (HS3.out) (fun hS => ?_)
            clear hK K
            try simp only [List.setIfInBounds_toArray, List.set_cons_zero, List.set_cons_succ]
            refine wpAnyH_ready (rs := [5]) (by kernel_rfl) (by simp) ?_
            refine AllReadyH.cons (o := _) rfl (fun K hK => ?_) AllReadyH.nil
            go_simp
            refine (some_any p lp ln lc tp tn tc rp rn rc ((andN (2 ^ rn - 1) sk : Nat) : Int) _ (HP.out.below hS.1.below) (by omega) (by omega) (by have := andN_lt (2 ^ rn - 1) sk; omega)).mono ?_
            rintro e v5 ⟨q3, n3, d3, rfl, hps, hcs, hb⟩
            have HSM := hid hps
            clear hps hcs
            replace HNX := hid (HNX.out.below hb)
            refine hK.out _ _ (⟨hS.1.step hb, hS.2.trans (hb.mono hS.2.size)⟩) (fun hS => ?_)
            clear hK K
            try simp only [List.setIfInBounds_toArray, List.set_cons_zero, List.set_cons_succ]
            refine wpAnyH_ready (rs := [6]) (by kernel_rfl) (by simp) ?_
            refine AllReadyH.cons (o := _) rfl (fun K hK => ?_) AllReadyH.nil
            have hn3 := some_n HOK.out HSM.out
            go_simp
            refine (prog_any (someP p ((andN (2 ^ rn - 1) sk : Nat) : Int)) lp ln lc tp tn tc q3 n3 d3 _ HSM.out (by omega) (by omega) (by omega)).mono ?_
            rintro e v6 ⟨lqq, lcc, tqq, tcc, rqq, rcc, rfl, hpx, hcx, hb⟩
            have HPX := hid hpx
            clear hpx hcx
            replace HNX := hid (HNX.out.below hb)
            replace HSM := hid (HSM.out.below hb)
            refine hK.out _ _ (⟨hS.1.step hb, hS.2.trans (hb.mono hS.2.size)⟩) (fun hS => ?_)
            clear hK K
            try simp only [List.setIfInBounds_toArray, List.set_cons_zero, List.set_cons_succ]
            refine wpAnyH_ready (rs := [7]) (by kernel_rfl) (by simp) ?_
            refine AllReadyH.cons (o := _) rfl (fun K hK => ?_) AllReadyH.nil
            go_simp
            refine (net_any (someP p ((andN (2 ^ rn - 1) sk : Nat) : Int)) lqq ln lcc tqq tn tcc rqq n3 rcc _ HPX.out).mono ?_
            rintro e v7 ⟨rfl, hb⟩
            obtain ⟨R, hR⟩ : ∃ R, netP (someP p ((andN (2 ^ rn - 1) sk : Nat) : Int)) = R := ⟨_, rfl⟩
            rw [hR, HER1.out]
            clear hR
            replace HNX := hid (HNX.out.below hb)
            replace HPX := hid (HPX.out.below hb)
            refine hK.out _ _ (⟨hS.1.step hb, hS.2.trans (hb.mono hS.2.size)⟩) (fun hS => ?_)
            clear hK K
            try simp only [List.setIfInBounds_toArray, List.set_cons_zero, List.set_cons_succ]
            refine tkH (i := 8) (v := ?_) (fun V hV => ?_) ?_
            rotate_left
            · go_simp
              try with_reducible rfl
            try simp only [Act.put, List.getElem_toArray, List.getElem_cons_zero, List.getElem_cons_succ, List.setIfInBounds_toArray, List.set_cons_zero, List.set_cons_succ]
            refine tkH (i := 9) (v := ?_) (fun V hV => ?_) ?_
            rotate_left
            · go_simp
              try with_reducible rfl
            try simp only [Act.put, List.getElem_toArray, List.getElem_cons_zero, List.getElem_cons_succ, List.setIfInBounds_toArray, List.set_cons_zero, List.set_cons_succ]
            refine tkH (i := 10) (v := ?_) (fun V hV => ?_) ?_
            rotate_left
            · go_simp
              try with_reducible rfl
            try simp only [Act.put, List.getElem_toArray, List.getElem_cons_zero, List.getElem_cons_succ, List.setIfInBounds_toArray, List.set_cons_zero, List.set_cons_succ]
            refine wpAnyH_ready (rs := [12]) (by kernel_rfl) (by simp) ?_
            refine AllReadyH.cons (o := _) rfl (fun K hK => ?_) AllReadyH.nil
            have k0 := (HNX.out.2 0 (.int .i64 0) rfl).1; have f0 := (HNX.out.2 0 (.int .i64 0) rfl).2
            have k1 := (HNX.out.2 1 (.int .i64 0) rfl).1; have f1 := (HNX.out.2 1 (.int .i64 0) rfl).2
            have HP : Hid (BoxIs v2.heap.size #[.int .i64 R.lo, .int .i64 R.hi] ((v7.setCell ⟨v2.heap.size, 0, none⟩ (.int .i64 R.lo)).setCell ⟨v2.heap.size, 1, none⟩ (.int .i64 R.hi))) := hid ((HNX.out.put (j := 0) (.int .i64 R.lo)).put (j := 1) (.int .i64 R.hi))
            have HNQ := hid (((Near.refl (fun i => i = v2.heap.size) v7).setCell (p := ⟨v2.heap.size, 0, none⟩) (fun _ => rfl) (.int .i64 R.lo)).setCell (p := ⟨v2.heap.size, 1, none⟩) (fun _ => rfl) (.int .i64 R.hi))
            have HSW := hid (hS.1.step' ((((Below.refl wd.heap.size v7).setCell (p := ⟨v2.heap.size, 0, none⟩) HLHNX.out (.int .i64 R.lo)).setCell (p := ⟨v2.heap.size, 1, none⟩) HLHNX.out (.int .i64 R.hi)).mono HD.out.size))
            have HSB := hid (hS.2.trans (((Below.refl wd.heap.size v7).setCell (p := ⟨v2.heap.size, 0, none⟩) HLHNX.out (.int .i64 R.lo)).setCell (p := ⟨v2.heap.size, 1, none⟩) HLHNX.out (.int .i64 R.hi)))
            clear hS
            go_simp
            clear k0 f0 k1 f1
            generalize ((v7.setCell ⟨v2.heap.size, 0, none⟩ (.int .i64 R.lo)).setCell ⟨v2.heap.size, 1, none⟩ (.int .i64 R.hi)) = v12 at HP HSW HSB HNQ   ⊢
            replace HNX := HP
            clear HNQ
            refine hK.out _ _ (⟨HSW.out, HSB.out⟩) (fun hS => ?_)
            clear hK K
            try simp only [List.setIfInBounds_toArray, List.set_cons_zero, List.set_cons_succ]
            refine tkH (i := 13) (v := ?_) (fun V hV => ?_) ?_
            rotate_left
            · go_simp
              try with_reducible rfl
            try simp only [Act.put, List.getElem_toArray, List.getElem_cons_zero, List.getElem_cons_succ, List.setIfInBounds_toArray, List.set_cons_zero, List.set_cons_succ]
            refine wpAnyH_done (by kernel_rfl) ?_ _
            go_wp2
            go_meet
            case rel => exact ⟨_, rfl, rfl, hS.1, HWD.out.trans (hS.2.mono HWD.out.size)⟩
          refine AllReadyH.cons (o := _) rfl (fun K hK => ?_) AllReadyH.nil
          obtain ⟨v11, hv11⟩ : ∃ V, wd.alloc (.cells #[.int .i64 0, .int .i64 0] 51) = V := ⟨_, rfl⟩
          have hb : Below wd.heap.size wd v11 := by rw [← hv11]; exact (Below.refl _ _).alloc (Nat.le_refl _) _
          have HNX : Hid (BoxIs wd.heap.size #[.int .i64 0, .int .i64 0] v11) := hid (by rw [← hv11]; exact BoxIs.start _ _ _)
          have HLHNX : Hid (wd.heap.size ≤ wd.heap.size) := hid hS.2.size
          have HS3 := hid (show Boxed1 w #[.slice lp ln lc, .int .i64 p.reserve, .slice tp tn tc, .slice rp rn rc] 26 v11 ∧ Below wd.heap.size wd v11 from ⟨hS.1.step hb, hS.2.trans (hb.mono hS.2.size)⟩)
          clear hS hb
          go_simp
          clear hv11
          refine hK.out _ _ (HS3.out) (fun hS => ?_)
          clear hK K
          try simp only [List.setIfInBounds_toArray, List.set_cons_zero, List.set_cons_succ]
          refine wpAnyH_ready (rs := [2]) (by kernel_rfl) (by simp) ?_
          refine AllReadyH.cons (o := _) rfl (fun K hK => ?_) AllReadyH.nil
          go_simp
          (with_reducible refine (full_any p lp ln lc tp tn tc rp rn rc _ (by omega)).mono ?_)
          rintro e v2 ⟨rfl, hb⟩
          replace HNX := hid (HNX.out.below hb)
          refine hK.out _ _ (⟨hS.1.step hb, hS.2.trans (hb.mono hS.2.size)⟩) (fun hS => ?_)
          clear hK K
          try simp only [List.setIfInBounds_toArray, List.set_cons_zero, List.set_cons_succ]
          refine tkH (i := 4) (v := ?_) (fun V hV => ?_) ?_
          rotate_left
          · have q1 := HAN14.out; go_simp
            try with_reducible rfl
          try simp only [Act.put, List.getElem_toArray, List.getElem_cons_zero, List.getElem_cons_succ, List.setIfInBounds_toArray, List.set_cons_zero, List.set_cons_succ]
          refine wpAnyH_ready (rs := [5]) (by kernel_rfl) (by simp) ?_
          refine AllReadyH.cons (o := _) rfl (fun K hK => ?_) AllReadyH.nil
          go_simp
          refine (some_any p lp ln lc tp tn tc rp rn rc ((andN (2 ^ rn - 1) sk : Nat) : Int) _ (HP.out.below hS.1.below) (by omega) (by omega) (by have := andN_lt (2 ^ rn - 1) sk; omega)).mono ?_
          rintro e v5 ⟨q3, n3, d3, rfl, hps, hcs, hb⟩
          have HSM := hid hps
          clear hps hcs
          replace HNX := hid (HNX.out.below hb)
          refine hK.out _ _ (⟨hS.1.step hb, hS.2.trans (hb.mono hS.2.size)⟩) (fun hS => ?_)
          clear hK K
          try simp only [List.setIfInBounds_toArray, List.set_cons_zero, List.set_cons_succ]
          refine wpAnyH_ready (rs := [6]) (by kernel_rfl) (by simp) ?_
          refine AllReadyH.cons (o := _) rfl (fun K hK => ?_) AllReadyH.nil
          have hn3 := some_n HOK.out HSM.out
          go_simp
          refine (prog_any (someP p ((andN (2 ^ rn - 1) sk : Nat) : Int)) lp ln lc tp tn tc q3 n3 d3 _ HSM.out (by omega) (by omega) (by omega)).mono ?_
          rintro e v6 ⟨lqq, lcc, tqq, tcc, rqq, rcc, rfl, hpx, hcx, hb⟩
          have HPX := hid hpx
          clear hpx hcx
          replace HNX := hid (HNX.out.below hb)
          replace HSM := hid (HSM.out.below hb)
          refine hK.out _ _ (⟨hS.1.step hb, hS.2.trans (hb.mono hS.2.size)⟩) (fun hS => ?_)
          clear hK K
          try simp only [List.setIfInBounds_toArray, List.set_cons_zero, List.set_cons_succ]
          refine wpAnyH_ready (rs := [7]) (by kernel_rfl) (by simp) ?_
          refine AllReadyH.cons (o := _) rfl (fun K hK => ?_) AllReadyH.nil
          go_simp
          refine (net_any (someP p ((andN (2 ^ rn - 1) sk : Nat) : Int)) lqq ln lcc tqq tn tcc rqq n3 rcc _ HPX.out).mono ?_
          rintro e v7 ⟨rfl, hb⟩
          obtain ⟨R, hR⟩ : ∃ R, netP (someP p ((andN (2 ^ rn - 1) sk : Nat) : Int)) = R := ⟨_, rfl⟩
          rw [hR, HER1.out]
          clear hR
          replace HNX := hid (HNX.out.below hb)
          replace HPX := hid (HPX.out.below hb)
          refine hK.out _ _ (⟨hS.1.step hb, hS.2.trans (hb.mono hS.2.size)⟩) (fun hS => ?_)
          clear hK K
          try simp only [List.setIfInBounds_toArray, List.set_cons_zero, List.set_cons_succ]
          refine tkH (i := 8) (v := ?_) (fun V hV => ?_) ?_
          rotate_left
          · go_simp
            try with_reducible rfl
          try simp only [Act.put, List.getElem_toArray, List.getElem_cons_zero, List.getElem_cons_succ, List.setIfInBounds_toArray, List.set_cons_zero, List.set_cons_succ]
          refine tkH (i := 9) (v := ?_) (fun V hV => ?_) ?_
          rotate_left
          · go_simp
            try with_reducible rfl
          try simp only [Act.put, List.getElem_toArray, List.getElem_cons_zero, List.getElem_cons_succ, List.setIfInBounds_toArray, List.set_cons_zero, List.set_cons_succ]
          refine tkH (i := 10) (v := ?_) (fun V hV => ?_) ?_
          rotate_left
          · go_simp
            try with_reducible rfl
          try simp only [Act.put, List.getElem_toArray, List.getElem_cons_zero, List.getElem_cons_succ, List.setIfInBounds_toArray, List.set_cons_zero, List.set_cons_succ]
          refine wpAnyH_ready (rs := [12]) (by kernel_rfl) (by simp) ?_
          refine AllReadyH.cons (o := _) rfl (fun K hK => ?_) AllReadyH.nil
          have k0 := (HNX.out.2 0 (.int .i64 0) rfl).1; have f0 := (HNX.out.2 0 (.int .i64 0) rfl).2
          have k1 := (HNX.out.2 1 (.int .i64 0) rfl).1; have f1 := (HNX.out.2 1 (.int .i64 0) rfl).2
          have HP : Hid (BoxIs wd.heap.size #[.int .i64 R.lo, .int .i64 R.hi] ((v7.setCell ⟨wd.heap.size, 0, none⟩ (.int .i64 R.lo)).setCell ⟨wd.heap.size, 1, none⟩ (.int .i64 R.hi))) := hid ((HNX.out.put (j := 0) (.int .i64 R.lo)).put (j := 1) (.int .i64 R.hi))
          have HNQ := hid (((Near.refl (fun i => i = wd.heap.size) v7).setCell (p := ⟨wd.heap.size, 0, none⟩) (fun _ => rfl) (.int .i64 R.lo)).setCell (p := ⟨wd.heap.size, 1, none⟩) (fun _ => rfl) (.int .i64 R.hi))
          have HSW := hid (hS.1.step' ((((Below.refl wd.heap.size v7).setCell (p := ⟨wd.heap.size, 0, none⟩) HLHNX.out (.int .i64 R.lo)).setCell (p := ⟨wd.heap.size, 1, none⟩) HLHNX.out (.int .i64 R.hi)).mono HD.out.size))
          have HSB := hid (hS.2.trans (((Below.refl wd.heap.size v7).setCell (p := ⟨wd.heap.size, 0, none⟩) HLHNX.out (.int .i64 R.lo)).setCell (p := ⟨wd.heap.size, 1, none⟩) HLHNX.out (.int .i64 R.hi)))
          clear hS
          go_simp
          clear k0 f0 k1 f1
          generalize ((v7.setCell ⟨wd.heap.size, 0, none⟩ (.int .i64 R.lo)).setCell ⟨wd.heap.size, 1, none⟩ (.int .i64 R.hi)) = v12 at HP HSW HSB HNQ   ⊢
          replace HNX := HP
          clear HNQ
          refine hK.out _ _ (⟨HSW.out, HSB.out⟩) (fun hS => ?_)
          clear hK K
          try simp only [List.setIfInBounds_toArray, List.set_cons_zero, List.set_cons_succ]
          refine tkH (i := 13) (v := ?_) (fun V hV => ?_) ?_
          rotate_left
          · go_simp
            try with_reducible rfl
          try simp only [Act.put, List.getElem_toArray, List.getElem_cons_zero, List.getElem_cons_succ, List.setIfInBounds_toArray, List.set_cons_zero, List.set_cons_succ]
          refine wpAnyH_done (by kernel_rfl) ?_ _
          go_wp2
          go_meet
          case rel => exact ⟨_, rfl, rfl, hS.1, HWD.out.trans (hS.2.mono HWD.out.size)⟩
        case rest =>
          obtain ⟨bn14, rfl, rfl, hbx, hbw⟩ := hcut
          have H6 := hid hbx; replace HXI := hid (HXI.out.below hbw)
          clear hbx hbw
          generalize wc = w6 at H6 HXI ⊢
          cases hpo : possO (someP p ((andN (2 ^ rn - 1) N : Nat) : Int)) allT []
          · skip
            have HER2 : Hid (errP (someP p ((andN (2 ^ rn - 1) N : Nat) : Int)) = 11) := hid (by rw [err_some HOK.out, hpo]; rfl)
            clear hpo
            go_upto_region 15 with fail
            go_cut [12, 13] from 14 (fun a10 a11 wr => ∃ b, a10 = .pointer (some ⟨b, 0, none⟩) ∧ a11 = .int .i64 11 ∧ Boxed1 w #[.slice lp ln lc, .int .i64 p.reserve, .slice tp tn tc, .slice rp rn rc] 26 wr ∧ Below w6.heap.size w6 wr)
            case first =>
              obtain ⟨wd, hwd⟩ : ∃ V, w6.drew = V := ⟨_, rfl⟩
              have HD := hid H6.out.drew
              rw [hwd] at HD
              have HWD : Hid (Below w6.heap.size w6 wd) := hid (by rw [← hwd]; exact (Below.refl _ _).drew)
              refine wp_region_held_drew (S := fun V => Boxed1 w #[.slice lp ln lc, .int .i64 p.reserve, .slice tp tn tc, .slice rp rn rc] 26 V ∧ Below wd.heap.size wd V) (by kernel_rfl) (by rw [hwd]; exact ⟨HD.out, Below.refl _ _⟩) (fun hS => ?_)
              rw [hwd] at hS ⊢
              clear hwd
              simp only [List.size_toArray, List.length_cons, List.length_nil, Nat.reduceAdd, Array.replicate_succ, Array.replicate_zero, List.push_toArray, List.nil_append, List.cons_append]
              refine tkH (i := 0) (v := ?_) (fun V hV => ?_) ?_
              rotate_left
              · have e0 := hV.1.cell 0 (v := .slice lp ln lc) rfl; have e1 := hV.1.cell 1 (v := .int .i64 p.reserve) rfl; have e2 := hV.1.cell 2 (v := .slice tp tn tc) rfl; have e3 := hV.1.cell 3 (v := .slice rp rn rc) rfl; go_simp
                try with_reducible rfl
              try simp only [Act.put, List.getElem_toArray, List.getElem_cons_zero, List.setIfInBounds_toArray, List.set_cons_zero, List.set_cons_succ]
              refine tkH (i := 1) (v := ?_) (fun V hV => ?_) ?_
              rotate_left
              · have e0 := hV.1.cell 0 (v := .slice lp ln lc) rfl; have e1 := hV.1.cell 1 (v := .int .i64 p.reserve) rfl; have e2 := hV.1.cell 2 (v := .slice tp tn tc) rfl; have e3 := hV.1.cell 3 (v := .slice rp rn rc) rfl; go_simp
                try with_reducible rfl
              try simp only [Act.put, List.getElem_toArray, List.getElem_cons_zero, List.getElem_cons_succ, List.setIfInBounds_toArray, List.set_cons_zero, List.set_cons_succ]
              refine tkH (i := 3) (v := ?_) (fun V hV => ?_) ?_
              rotate_left
              · go_simp
                try with_reducible rfl
              try simp only [Act.put, List.getElem_toArray, List.getElem_cons_zero, List.getElem_cons_succ, List.setIfInBounds_toArray, List.set_cons_zero, List.set_cons_succ]
              refine wpAnyH_ready (rs := [2, 11]) (by kernel_rfl) (by simp) ?_
              refine AllReadyH.cons (o := _) rfl (fun K hK => ?_) ?_
              · skip
                go_simp
                (with_reducible refine (full_any p lp ln lc tp tn tc rp rn rc _ (by omega)).mono ?_)
                rintro e v2 ⟨rfl, hb⟩
                refine hK.out _ _ (⟨hS.1.step hb, hS.2.trans (hb.mono hS.2.size)⟩) (fun hS => ?_)
                clear hK K
                try simp only [List.setIfInBounds_toArray, List.set_cons_zero, List.set_cons_succ]
                refine tkH (i := 4) (v := ?_) (fun V hV => ?_) ?_
                rotate_left
                · have q1 := HAN15.out; go_simp
                  try with_reducible rfl
                try simp only [Act.put, List.getElem_toArray, List.getElem_cons_zero, List.getElem_cons_succ, List.setIfInBounds_toArray, List.set_cons_zero, List.set_cons_succ]
                refine wpAnyH_ready (rs := [5, 11]) (by kernel_rfl) (by simp) ?_
                refine AllReadyH.cons (o := _) rfl (fun K hK => ?_) ?_
                · skip
                  go_simp
                  refine (some_any p lp ln lc tp tn tc rp rn rc ((andN (2 ^ rn - 1) N : Nat) : Int) _ (HP.out.below hS.1.below) (by omega) (by omega) (by have := andN_lt (2 ^ rn - 1) N; omega)).mono ?_
                  rintro e v5 ⟨q3, n3, d3, rfl, hps, hcs, hb⟩
                  have HSM := hid hps
                  clear hps hcs
                  refine hK.out _ _ (⟨hS.1.step hb, hS.2.trans (hb.mono hS.2.size)⟩) (fun hS => ?_)
                  clear hK K
                  try simp only [List.setIfInBounds_toArray, List.set_cons_zero, List.set_cons_succ]
                  refine wpAnyH_ready (rs := [6, 11]) (by kernel_rfl) (by simp) ?_
                  refine AllReadyH.cons (o := _) rfl (fun K hK => ?_) ?_
                  · skip
                    have hn3 := some_n HOK.out HSM.out
                    go_simp
                    refine (prog_any (someP p ((andN (2 ^ rn - 1) N : Nat) : Int)) lp ln lc tp tn tc q3 n3 d3 _ HSM.out (by omega) (by omega) (by omega)).mono ?_
                    rintro e v6 ⟨lqq, lcc, tqq, tcc, rqq, rcc, rfl, hpx, hcx, hb⟩
                    have HPX := hid hpx
                    clear hpx hcx
                    replace HSM := hid (HSM.out.below hb)
                    refine hK.out _ _ (⟨hS.1.step hb, hS.2.trans (hb.mono hS.2.size)⟩) (fun hS => ?_)
                    clear hK K
                    try simp only [List.setIfInBounds_toArray, List.set_cons_zero, List.set_cons_succ]
                    refine wpAnyH_ready (rs := [7, 11]) (by kernel_rfl) (by simp) ?_
                    refine AllReadyH.cons (o := _) rfl (fun K hK => ?_) ?_
                    · skip
                      go_simp
                      refine (net_any (someP p ((andN (2 ^ rn - 1) N : Nat) : Int)) lqq ln lcc tqq tn tcc rqq n3 rcc _ HPX.out).mono ?_
                      rintro e v7 ⟨rfl, hb⟩
                      obtain ⟨R, hR⟩ : ∃ R, netP (someP p ((andN (2 ^ rn - 1) N : Nat) : Int)) = R := ⟨_, rfl⟩
                      rw [hR, HER2.out]
                      clear hR
                      replace HPX := hid (HPX.out.below hb)
                      refine hK.out _ _ (⟨hS.1.step hb, hS.2.trans (hb.mono hS.2.size)⟩) (fun hS => ?_)
                      clear hK K
                      try simp only [List.setIfInBounds_toArray, List.set_cons_zero, List.set_cons_succ]
                      refine tkH (i := 8) (v := ?_) (fun V hV => ?_) ?_
                      rotate_left
                      · go_simp
                        try with_reducible rfl
                      try simp only [Act.put, List.getElem_toArray, List.getElem_cons_zero, List.getElem_cons_succ, List.setIfInBounds_toArray, List.set_cons_zero, List.set_cons_succ]
                      refine tkH (i := 9) (v := ?_) (fun V hV => ?_) ?_
                      rotate_left
                      · go_simp
                        try with_reducible rfl
                      try simp only [Act.put, List.getElem_toArray, List.getElem_cons_zero, List.getElem_cons_succ, List.setIfInBounds_toArray, List.set_cons_zero, List.set_cons_succ]
                      refine tkH (i := 10) (v := ?_) (fun V hV => ?_) ?_
                      rotate_left
                      · go_simp
                        try with_reducible rfl
                      try simp only [Act.put, List.getElem_toArray, List.getElem_cons_zero, List.getElem_cons_succ, List.setIfInBounds_toArray, List.set_cons_zero, List.set_cons_succ]
                      refine wpAnyH_ready (rs := [11]) (by kernel_rfl) (by simp) ?_
                      refine AllReadyH.cons (o := _) rfl (fun K hK => ?_) AllReadyH.nil
                      obtain ⟨v11, hv11⟩ : ∃ V, v7.alloc (.cells #[.int .i64 0, .int .i64 0] 51) = V := ⟨_, rfl⟩
                      have hb : Below v7.heap.size v7 v11 := by rw [← hv11]; exact (Below.refl _ _).alloc (Nat.le_refl _) _
                      have HNX : Hid (BoxIs v7.heap.size #[.int .i64 0, .int .i64 0] v11) := hid (by rw [← hv11]; exact BoxIs.start _ _ _)
                      have HLHNX : Hid (wd.heap.size ≤ v7.heap.size) := hid hS.2.size
                      have HS3 := hid (show Boxed1 w #[.slice lp ln lc, .int .i64 p.reserve, .slice tp tn tc, .slice rp rn rc] 26 v11 ∧ Below wd.heap.size wd v11 from ⟨hS.1.step hb, hS.2.trans (hb.mono hS.2.size)⟩)
                      clear hS hb
                      go_simp
                      clear hv11
                      refine hK.out _ _ (HS3.out) (fun hS => ?_)
                      clear hK K
                      try simp only [List.setIfInBounds_toArray, List.set_cons_zero, List.set_cons_succ]
                      refine wpAnyH_ready (rs := [12]) (by kernel_rfl) (by simp) ?_
                      refine AllReadyH.cons (o := _) rfl (fun K hK => ?_) AllReadyH.nil
                      have k0 := (HNX.out.2 0 (.int .i64 0) rfl).1; have f0 := (HNX.out.2 0 (.int .i64 0) rfl).2
                      have k1 := (HNX.out.2 1 (.int .i64 0) rfl).1; have f1 := (HNX.out.2 1 (.int .i64 0) rfl).2
                      have HP : Hid (BoxIs v7.heap.size #[.int .i64 R.lo, .int .i64 R.hi] ((v11.setCell ⟨v7.heap.size, 0, none⟩ (.int .i64 R.lo)).setCell ⟨v7.heap.size, 1, none⟩ (.int .i64 R.hi))) := hid ((HNX.out.put (j := 0) (.int .i64 R.lo)).put (j := 1) (.int .i64 R.hi))
                      have HNQ := hid (((Near.refl (fun i => i = v7.heap.size) v11).setCell (p := ⟨v7.heap.size, 0, none⟩) (fun _ => rfl) (.int .i64 R.lo)).setCell (p := ⟨v7.heap.size, 1, none⟩) (fun _ => rfl) (.int .i64 R.hi))
                      have HSW := hid (hS.1.step' ((((Below.refl wd.heap.size v11).setCell (p := ⟨v7.heap.size, 0, none⟩) HLHNX.out (.int .i64 R.lo)).setCell (p := ⟨v7.heap.size, 1, none⟩) HLHNX.out (.int .i64 R.hi)).mono HD.out.size))
                      have HSB := hid (hS.2.trans (((Below.refl wd.heap.size v11).setCell (p := ⟨v7.heap.size, 0, none⟩) HLHNX.out (.int .i64 R.lo)).setCell (p := ⟨v7.heap.size, 1, none⟩) HLHNX.out (.int .i64 R.hi)))
                      clear hS
                      go_simp
                      clear k0 f0 k1 f1
                      generalize ((v11.setCell ⟨v7.heap.size, 0, none⟩ (.int .i64 R.lo)).setCell ⟨v7.heap.size, 1, none⟩ (.int .i64 R.hi)) = v12 at HP HSW HSB HNQ   ⊢
                      replace HNX := HP
                      clear HNQ
                      refine hK.out _ _ (⟨HSW.out, HSB.out⟩) (fun hS => ?_)
                      clear hK K
                      try simp only [List.setIfInBounds_toArray, List.set_cons_zero, List.set_cons_succ]
                      refine tkH (i := 13) (v := ?_) (fun V hV => ?_) ?_
                      rotate_left
                      · go_simp
                        try with_reducible rfl
                      try simp only [Act.put, List.getElem_toArray, List.getElem_cons_zero, List.getElem_cons_succ, List.setIfInBounds_toArray, List.set_cons_zero, List.set_cons_succ]
                      refine wpAnyH_done (by kernel_rfl) ?_ _
                      go_wp2
                      go_meet
                      case rel => exact ⟨_, rfl, rfl, hS.1, HWD.out.trans (hS.2.mono HWD.out.size)⟩
                    refine AllReadyH.cons (o := _) rfl (fun K hK => ?_) AllReadyH.nil
                    obtain ⟨v11, hv11⟩ : ∃ V, v6.alloc (.cells #[.int .i64 0, .int .i64 0] 51) = V := ⟨_, rfl⟩
                    have hb : Below v6.heap.size v6 v11 := by rw [← hv11]; exact (Below.refl _ _).alloc (Nat.le_refl _) _
                    have HNX : Hid (BoxIs v6.heap.size #[.int .i64 0, .int .i64 0] v11) := hid (by rw [← hv11]; exact BoxIs.start _ _ _)
                    have HLHNX : Hid (wd.heap.size ≤ v6.heap.size) := hid hS.2.size
                    replace HPX := hid (HPX.out.below hb)
                    have HS3 := hid (show Boxed1 w #[.slice lp ln lc, .int .i64 p.reserve, .slice tp tn tc, .slice rp rn rc] 26 v11 ∧ Below wd.heap.size wd v11 from ⟨hS.1.step hb, hS.2.trans (hb.mono hS.2.size)⟩)
                    clear hS hb
                    go_simp
                    clear hv11
                    refine hK.out _ _ (HS3.out) (fun hS => ?_)
                    clear hK K
                    try simp only [List.setIfInBounds_toArray, List.set_cons_zero, List.set_cons_succ]
                    refine wpAnyH_ready (rs := [7]) (by kernel_rfl) (by simp) ?_
                    refine AllReadyH.cons (o := _) rfl (fun K hK => ?_) AllReadyH.nil
                    go_simp
                    refine (net_any (someP p ((andN (2 ^ rn - 1) N : Nat) : Int)) lqq ln lcc tqq tn tcc rqq n3 rcc _ HPX.out).mono ?_
                    rintro e v7 ⟨rfl, hb⟩
                    obtain ⟨R, hR⟩ : ∃ R, netP (someP p ((andN (2 ^ rn - 1) N : Nat) : Int)) = R := ⟨_, rfl⟩
                    rw [hR, HER2.out]
                    clear hR
                    replace HNX := hid (HNX.out.below hb)
                    replace HPX := hid (HPX.out.below hb)
                    refine hK.out _ _ (⟨hS.1.step hb, hS.2.trans (hb.mono hS.2.size)⟩) (fun hS => ?_)
                    clear hK K
                    try simp only [List.setIfInBounds_toArray, List.set_cons_zero, List.set_cons_succ]
                    refine tkH (i := 8) (v := ?_) (fun V hV => ?_) ?_
                    rotate_left
                    · go_simp
                      try with_reducible rfl
                    try simp only [Act.put, List.getElem_toArray, List.getElem_cons_zero, List.getElem_cons_succ, List.setIfInBounds_toArray, List.set_cons_zero, List.set_cons_succ]
                    refine tkH (i := 9) (v := ?_) (fun V hV => ?_) ?_
                    rotate_left
                    · go_simp
                      try with_reducible rfl
                    try simp only [Act.put, List.getElem_toArray, List.getElem_cons_zero, List.getElem_cons_succ, List.setIfInBounds_toArray, List.set_cons_zero, List.set_cons_succ]
                    refine tkH (i := 10) (v := ?_) (fun V hV => ?_) ?_
                    rotate_left
                    · go_simp
                      try with_reducible rfl
                    try simp only [Act.put, List.getElem_toArray, List.getElem_cons_zero, List.getElem_cons_succ, List.setIfInBounds_toArray, List.set_cons_zero, List.set_cons_succ]
                    refine wpAnyH_ready (rs := [12]) (by kernel_rfl) (by simp) ?_
                    refine AllReadyH.cons (o := _) rfl (fun K hK => ?_) AllReadyH.nil
                    have k0 := (HNX.out.2 0 (.int .i64 0) rfl).1; have f0 := (HNX.out.2 0 (.int .i64 0) rfl).2
                    have k1 := (HNX.out.2 1 (.int .i64 0) rfl).1; have f1 := (HNX.out.2 1 (.int .i64 0) rfl).2
                    have HP : Hid (BoxIs v6.heap.size #[.int .i64 R.lo, .int .i64 R.hi] ((v7.setCell ⟨v6.heap.size, 0, none⟩ (.int .i64 R.lo)).setCell ⟨v6.heap.size, 1, none⟩ (.int .i64 R.hi))) := hid ((HNX.out.put (j := 0) (.int .i64 R.lo)).put (j := 1) (.int .i64 R.hi))
                    have HNQ := hid (((Near.refl (fun i => i = v6.heap.size) v7).setCell (p := ⟨v6.heap.size, 0, none⟩) (fun _ => rfl) (.int .i64 R.lo)).setCell (p := ⟨v6.heap.size, 1, none⟩) (fun _ => rfl) (.int .i64 R.hi))
                    have HSW := hid (hS.1.step' ((((Below.refl wd.heap.size v7).setCell (p := ⟨v6.heap.size, 0, none⟩) HLHNX.out (.int .i64 R.lo)).setCell (p := ⟨v6.heap.size, 1, none⟩) HLHNX.out (.int .i64 R.hi)).mono HD.out.size))
                    have HSB := hid (hS.2.trans (((Below.refl wd.heap.size v7).setCell (p := ⟨v6.heap.size, 0, none⟩) HLHNX.out (.int .i64 R.lo)).setCell (p := ⟨v6.heap.size, 1, none⟩) HLHNX.out (.int .i64 R.hi)))
                    clear hS
                    go_simp
                    clear k0 f0 k1 f1
                    generalize ((v7.setCell ⟨v6.heap.size, 0, none⟩ (.int .i64 R.lo)).setCell ⟨v6.heap.size, 1, none⟩ (.int .i64 R.hi)) = v12 at HP HSW HSB HNQ   ⊢
                    replace HNX := HP
                    clear HNQ
                    refine hK.out _ _ (⟨HSW.out, HSB.out⟩) (fun hS => ?_)
                    clear hK K
                    try simp only [List.setIfInBounds_toArray, List.set_cons_zero, List.set_cons_succ]
                    refine tkH (i := 13) (v := ?_) (fun V hV => ?_) ?_
                    rotate_left
                    · go_simp
                      try with_reducible rfl
                    try simp only [Act.put, List.getElem_toArray, List.getElem_cons_zero, List.getElem_cons_succ, List.setIfInBounds_toArray, List.set_cons_zero, List.set_cons_succ]
                    refine wpAnyH_done (by kernel_rfl) ?_ _
                    go_wp2
                    go_meet
                    case rel => exact ⟨_, rfl, rfl, hS.1, HWD.out.trans (hS.2.mono HWD.out.size)⟩
                  refine AllReadyH.cons (o := _) rfl (fun K hK => ?_) AllReadyH.nil
                  obtain ⟨v11, hv11⟩ : ∃ V, v5.alloc (.cells #[.int .i64 0, .int .i64 0] 51) = V := ⟨_, rfl⟩
                  have hb : Below v5.heap.size v5 v11 := by rw [← hv11]; exact (Below.refl _ _).alloc (Nat.le_refl _) _
                  have HNX : Hid (BoxIs v5.heap.size #[.int .i64 0, .int .i64 0] v11) := hid (by rw [← hv11]; exact BoxIs.start _ _ _)
                  have HLHNX : Hid (wd.heap.size ≤ v5.heap.size) := hid hS.2.size
                  replace HSM := hid (HSM.out.below hb)
                  have HS3 := hid (show Boxed1 w #[.slice lp ln lc, .int .i64 p.reserve, .slice tp tn tc, .slice rp rn rc] 26 v11 ∧ Below wd.heap.size wd v11 from ⟨hS.1.step hb, hS.2.trans (hb.mono hS.2.size)⟩)
                  clear hS hb
                  go_simp
                  clear hv11
                  refine hK.out _ _ (HS3.out) (fun hS => ?_)
                  clear hK K
                  try simp only [List.setIfInBounds_toArray, List.set_cons_zero, List.set_cons_succ]
                  refine wpAnyH_ready (rs := [6]) (by kernel_rfl) (by simp) ?_
                  refine AllReadyH.cons (o := _) rfl (fun K hK => ?_) AllReadyH.nil
                  have hn3 := some_n HOK.out HSM.out
                  go_simp
                  refine (prog_any (someP p ((andN (2 ^ rn - 1) N : Nat) : Int)) lp ln lc tp tn tc q3 n3 d3 _ HSM.out (by omega) (by omega) (by omega)).mono ?_
                  rintro e v6 ⟨lqq, lcc, tqq, tcc, rqq, rcc, rfl, hpx, hcx, hb⟩
                  have HPX := hid hpx
                  clear hpx hcx
                  replace HNX := hid (HNX.out.below hb)
                  replace HSM := hid (HSM.out.below hb)
                  refine hK.out _ _ (⟨hS.1.step hb, hS.2.trans (hb.mono hS.2.size)⟩) (fun hS => ?_)
                  clear hK K
                  try simp only [List.setIfInBounds_toArray, List.set_cons_zero, List.set_cons_succ]
                  refine wpAnyH_ready (rs := [7]) (by kernel_rfl) (by simp) ?_
                  refine AllReadyH.cons (o := _) rfl (fun K hK => ?_) AllReadyH.nil
                  go_simp
                  refine (net_any (someP p ((andN (2 ^ rn - 1) N : Nat) : Int)) lqq ln lcc tqq tn tcc rqq n3 rcc _ HPX.out).mono ?_
                  rintro e v7 ⟨rfl, hb⟩
                  obtain ⟨R, hR⟩ : ∃ R, netP (someP p ((andN (2 ^ rn - 1) N : Nat) : Int)) = R := ⟨_, rfl⟩
                  rw [hR, HER2.out]
                  clear hR
                  replace HNX := hid (HNX.out.below hb)
                  replace HPX := hid (HPX.out.below hb)
                  refine hK.out _ _ (⟨hS.1.step hb, hS.2.trans (hb.mono hS.2.size)⟩) (fun hS => ?_)
                  clear hK K
                  try simp only [List.setIfInBounds_toArray, List.set_cons_zero, List.set_cons_succ]
                  refine tkH (i := 8) (v := ?_) (fun V hV => ?_) ?_
                  rotate_left
                  · go_simp
                    try with_reducible rfl
                  try simp only [Act.put, List.getElem_toArray, List.getElem_cons_zero, List.getElem_cons_succ, List.setIfInBounds_toArray, List.set_cons_zero, List.set_cons_succ]
                  refine tkH (i := 9) (v := ?_) (fun V hV => ?_) ?_
                  rotate_left
                  · go_simp
                    try with_reducible rfl
                  try simp only [Act.put, List.getElem_toArray, List.getElem_cons_zero, List.getElem_cons_succ, List.setIfInBounds_toArray, List.set_cons_zero, List.set_cons_succ]
                  refine tkH (i := 10) (v := ?_) (fun V hV => ?_) ?_
                  rotate_left
                  · go_simp
                    try with_reducible rfl
                  try simp only [Act.put, List.getElem_toArray, List.getElem_cons_zero, List.getElem_cons_succ, List.setIfInBounds_toArray, List.set_cons_zero, List.set_cons_succ]
                  refine wpAnyH_ready (rs := [12]) (by kernel_rfl) (by simp) ?_
                  refine AllReadyH.cons (o := _) rfl (fun K hK => ?_) AllReadyH.nil
                  have k0 := (HNX.out.2 0 (.int .i64 0) rfl).1; have f0 := (HNX.out.2 0 (.int .i64 0) rfl).2
                  have k1 := (HNX.out.2 1 (.int .i64 0) rfl).1; have f1 := (HNX.out.2 1 (.int .i64 0) rfl).2
                  have HP : Hid (BoxIs v5.heap.size #[.int .i64 R.lo, .int .i64 R.hi] ((v7.setCell ⟨v5.heap.size, 0, none⟩ (.int .i64 R.lo)).setCell ⟨v5.heap.size, 1, none⟩ (.int .i64 R.hi))) := hid ((HNX.out.put (j := 0) (.int .i64 R.lo)).put (j := 1) (.int .i64 R.hi))
                  have HNQ := hid (((Near.refl (fun i => i = v5.heap.size) v7).setCell (p := ⟨v5.heap.size, 0, none⟩) (fun _ => rfl) (.int .i64 R.lo)).setCell (p := ⟨v5.heap.size, 1, none⟩) (fun _ => rfl) (.int .i64 R.hi))
                  have HSW := hid (hS.1.step' ((((Below.refl wd.heap.size v7).setCell (p := ⟨v5.heap.size, 0, none⟩) HLHNX.out (.int .i64 R.lo)).setCell (p := ⟨v5.heap.size, 1, none⟩) HLHNX.out (.int .i64 R.hi)).mono HD.out.size))
                  have HSB := hid (hS.2.trans (((Below.refl wd.heap.size v7).setCell (p := ⟨v5.heap.size, 0, none⟩) HLHNX.out (.int .i64 R.lo)).setCell (p := ⟨v5.heap.size, 1, none⟩) HLHNX.out (.int .i64 R.hi)))
                  clear hS
                  go_simp
                  clear k0 f0 k1 f1
                  generalize ((v7.setCell ⟨v5.heap.size, 0, none⟩ (.int .i64 R.lo)).setCell ⟨v5.heap.size, 1, none⟩ (.int .i64 R.hi)) = v12 at HP HSW HSB HNQ   ⊢
                  replace HNX := HP
                  clear HNQ
                  refine hK.out _ _ (⟨HSW.out, HSB.out⟩) (fun hS => ?_)
                  clear hK K
                  try simp only [List.setIfInBounds_toArray, List.set_cons_zero, List.set_cons_succ]
                  refine tkH (i := 13) (v := ?_) (fun V hV => ?_) ?_
                  rotate_left
                  · go_simp
                    try with_reducible rfl
                  try simp only [Act.put, List.getElem_toArray, List.getElem_cons_zero, List.getElem_cons_succ, List.setIfInBounds_toArray, List.set_cons_zero, List.set_cons_succ]
                  refine wpAnyH_done (by kernel_rfl) ?_ _
                  go_wp2
                  go_meet
                  case rel => exact ⟨_, rfl, rfl, hS.1, HWD.out.trans (hS.2.mono HWD.out.size)⟩
                refine AllReadyH.cons (o := _) rfl (fun K hK => ?_) AllReadyH.nil
                obtain ⟨v11, hv11⟩ : ∃ V, v2.alloc (.cells #[.int .i64 0, .int .i64 0] 51) = V := ⟨_, rfl⟩
                have hb : Below v2.heap.size v2 v11 := by rw [← hv11]; exact (Below.refl _ _).alloc (Nat.le_refl _) _
                have HNX : Hid (BoxIs v2.heap.size #[.int .i64 0, .int .i64 0] v11) := hid (by rw [← hv11]; exact BoxIs.start _ _ _)
                have HLHNX : Hid (wd.heap.size ≤ v2.heap.size) := hid hS.2.size
                have HS3 := hid (show Boxed1 w #[.slice lp ln lc, .int .i64 p.reserve, .slice tp tn tc, .slice rp rn rc] 26 v11 ∧ Below wd.heap.size wd v11 from ⟨hS.1.step hb, hS.2.trans (hb.mono hS.2.size)⟩)
                clear hS hb
                go_simp
                clear hv11
                refine hK.out _ _ (HS3.out) (fun hS => ?_)
                clear hK K
                try simp only [List.setIfInBounds_toArray, List.set_cons_zero, List.set_cons_succ]
                refine wpAnyH_ready (rs := [5]) (by kernel_rfl) (by simp) ?_
                refine AllReadyH.cons (o := _) rfl (fun K hK => ?_) AllReadyH.nil
                go_simp
                refine (some_any p lp ln lc tp tn tc rp rn rc ((andN (2 ^ rn - 1) N : Nat) : Int) _ (HP.out.below hS.1.below) (by omega) (by omega) (by have := andN_lt (2 ^ rn - 1) N; omega)).mono ?_
                rintro e v5 ⟨q3, n3, d3, rfl, hps, hcs, hb⟩
                have HSM := hid hps
                clear hps hcs
                replace HNX := hid (HNX.out.below hb)
                refine hK.out _ _ (⟨hS.1.step hb, hS.2.trans (hb.mono hS.2.size)⟩) (fun hS => ?_)
                clear hK K
                try simp only [List.setIfInBounds_toArray, List.set_cons_zero, List.set_cons_succ]
                refine wpAnyH_ready (rs := [6]) (by kernel_rfl) (by simp) ?_
                refine AllReadyH.cons (o := _) rfl (fun K hK => ?_) AllReadyH.nil
                have hn3 := some_n HOK.out HSM.out
                go_simp
                refine (prog_any (someP p ((andN (2 ^ rn - 1) N : Nat) : Int)) lp ln lc tp tn tc q3 n3 d3 _ HSM.out (by omega) (by omega) (by omega)).mono ?_
                rintro e v6 ⟨lqq, lcc, tqq, tcc, rqq, rcc, rfl, hpx, hcx, hb⟩
                have HPX := hid hpx
                clear hpx hcx
                replace HNX := hid (HNX.out.below hb)
                replace HSM := hid (HSM.out.below hb)
                refine hK.out _ _ (⟨hS.1.step hb, hS.2.trans (hb.mono hS.2.size)⟩) (fun hS => ?_)
                clear hK K
                try simp only [List.setIfInBounds_toArray, List.set_cons_zero, List.set_cons_succ]
                refine wpAnyH_ready (rs := [7]) (by kernel_rfl) (by simp) ?_
                refine AllReadyH.cons (o := _) rfl (fun K hK => ?_) AllReadyH.nil
                go_simp
                refine (net_any (someP p ((andN (2 ^ rn - 1) N : Nat) : Int)) lqq ln lcc tqq tn tcc rqq n3 rcc _ HPX.out).mono ?_
                rintro e v7 ⟨rfl, hb⟩
                obtain ⟨R, hR⟩ : ∃ R, netP (someP p ((andN (2 ^ rn - 1) N : Nat) : Int)) = R := ⟨_, rfl⟩
                rw [hR, HER2.out]
                clear hR
                replace HNX := hid (HNX.out.below hb)
                replace HPX := hid (HPX.out.below hb)
                refine hK.out _ _ (⟨hS.1.step hb, hS.2.trans (hb.mono hS.2.size)⟩) (fun hS => ?_)
                clear hK K
                try simp only [List.setIfInBounds_toArray, List.set_cons_zero, List.set_cons_succ]
                refine tkH (i := 8) (v := ?_) (fun V hV => ?_) ?_
                rotate_left
                · go_simp
                  try with_reducible rfl
                try simp only [Act.put, List.getElem_toArray, List.getElem_cons_zero, List.getElem_cons_succ, List.setIfInBounds_toArray, List.set_cons_zero, List.set_cons_succ]
                refine tkH (i := 9) (v := ?_) (fun V hV => ?_) ?_
                rotate_left
                · go_simp
                  try with_reducible rfl
                try simp only [Act.put, List.getElem_toArray, List.getElem_cons_zero, List.getElem_cons_succ, List.setIfInBounds_toArray, List.set_cons_zero, List.set_cons_succ]
                refine tkH (i := 10) (v := ?_) (fun V hV => ?_) ?_
                rotate_left
                · go_simp
                  try with_reducible rfl
                try simp only [Act.put, List.getElem_toArray, List.getElem_cons_zero, List.getElem_cons_succ, List.setIfInBounds_toArray, List.set_cons_zero, List.set_cons_succ]
                refine wpAnyH_ready (rs := [12]) (by kernel_rfl) (by simp) ?_
                refine AllReadyH.cons (o := _) rfl (fun K hK => ?_) AllReadyH.nil
                have k0 := (HNX.out.2 0 (.int .i64 0) rfl).1; have f0 := (HNX.out.2 0 (.int .i64 0) rfl).2
                have k1 := (HNX.out.2 1 (.int .i64 0) rfl).1; have f1 := (HNX.out.2 1 (.int .i64 0) rfl).2
                have HP : Hid (BoxIs v2.heap.size #[.int .i64 R.lo, .int .i64 R.hi] ((v7.setCell ⟨v2.heap.size, 0, none⟩ (.int .i64 R.lo)).setCell ⟨v2.heap.size, 1, none⟩ (.int .i64 R.hi))) := hid ((HNX.out.put (j := 0) (.int .i64 R.lo)).put (j := 1) (.int .i64 R.hi))
                have HNQ := hid (((Near.refl (fun i => i = v2.heap.size) v7).setCell (p := ⟨v2.heap.size, 0, none⟩) (fun _ => rfl) (.int .i64 R.lo)).setCell (p := ⟨v2.heap.size, 1, none⟩) (fun _ => rfl) (.int .i64 R.hi))
                have HSW := hid (hS.1.step' ((((Below.refl wd.heap.size v7).setCell (p := ⟨v2.heap.size, 0, none⟩) HLHNX.out (.int .i64 R.lo)).setCell (p := ⟨v2.heap.size, 1, none⟩) HLHNX.out (.int .i64 R.hi)).mono HD.out.size))
                have HSB := hid (hS.2.trans (((Below.refl wd.heap.size v7).setCell (p := ⟨v2.heap.size, 0, none⟩) HLHNX.out (.int .i64 R.lo)).setCell (p := ⟨v2.heap.size, 1, none⟩) HLHNX.out (.int .i64 R.hi)))
                clear hS
                go_simp
                clear k0 f0 k1 f1
                generalize ((v7.setCell ⟨v2.heap.size, 0, none⟩ (.int .i64 R.lo)).setCell ⟨v2.heap.size, 1, none⟩ (.int .i64 R.hi)) = v12 at HP HSW HSB HNQ   ⊢
                replace HNX := HP
                clear HNQ
                refine hK.out _ _ (⟨HSW.out, HSB.out⟩) (fun hS => ?_)
                clear hK K
                try simp only [List.setIfInBounds_toArray, List.set_cons_zero, List.set_cons_succ]
                refine tkH (i := 13) (v := ?_) (fun V hV => ?_) ?_
                rotate_left
                · go_simp
                  try with_reducible rfl
                try simp only [Act.put, List.getElem_toArray, List.getElem_cons_zero, List.getElem_cons_succ, List.setIfInBounds_toArray, List.set_cons_zero, List.set_cons_succ]
                refine wpAnyH_done (by kernel_rfl) ?_ _
                go_wp2
                go_meet
                case rel => exact ⟨_, rfl, rfl, hS.1, HWD.out.trans (hS.2.mono HWD.out.size)⟩
              refine AllReadyH.cons (o := _) rfl (fun K hK => ?_) AllReadyH.nil
              obtain ⟨v11, hv11⟩ : ∃ V, wd.alloc (.cells #[.int .i64 0, .int .i64 0] 51) = V := ⟨_, rfl⟩
              have hb : Below wd.heap.size wd v11 := by rw [← hv11]; exact (Below.refl _ _).alloc (Nat.le_refl _) _
              have HNX : Hid (BoxIs wd.heap.size #[.int .i64 0, .int .i64 0] v11) := hid (by rw [← hv11]; exact BoxIs.start _ _ _)
              have HLHNX : Hid (wd.heap.size ≤ wd.heap.size) := hid hS.2.size
              have HS3 := hid (show Boxed1 w #[.slice lp ln lc, .int .i64 p.reserve, .slice tp tn tc, .slice rp rn rc] 26 v11 ∧ Below wd.heap.size wd v11 from ⟨hS.1.step hb, hS.2.trans (hb.mono hS.2.size)⟩)
              clear hS hb
              go_simp
              clear hv11
              refine hK.out _ _ (HS3.out) (fun hS => ?_)
              clear hK K
              try simp only [List.setIfInBounds_toArray, List.set_cons_zero, List.set_cons_succ]
              refine wpAnyH_ready (rs := [2]) (by kernel_rfl) (by simp) ?_
              refine AllReadyH.cons (o := _) rfl (fun K hK => ?_) AllReadyH.nil
              go_simp
              (with_reducible refine (full_any p lp ln lc tp tn tc rp rn rc _ (by omega)).mono ?_)
              rintro e v2 ⟨rfl, hb⟩
              replace HNX := hid (HNX.out.below hb)
              refine hK.out _ _ (⟨hS.1.step hb, hS.2.trans (hb.mono hS.2.size)⟩) (fun hS => ?_)
              clear hK K
              try simp only [List.setIfInBounds_toArray, List.set_cons_zero, List.set_cons_succ]
              refine tkH (i := 4) (v := ?_) (fun V hV => ?_) ?_
              rotate_left
              · have q1 := HAN15.out; go_simp
                try with_reducible rfl
              try simp only [Act.put, List.getElem_toArray, List.getElem_cons_zero, List.getElem_cons_succ, List.setIfInBounds_toArray, List.set_cons_zero, List.set_cons_succ]
              refine wpAnyH_ready (rs := [5]) (by kernel_rfl) (by simp) ?_
              refine AllReadyH.cons (o := _) rfl (fun K hK => ?_) AllReadyH.nil
              go_simp
              refine (some_any p lp ln lc tp tn tc rp rn rc ((andN (2 ^ rn - 1) N : Nat) : Int) _ (HP.out.below hS.1.below) (by omega) (by omega) (by have := andN_lt (2 ^ rn - 1) N; omega)).mono ?_
              rintro e v5 ⟨q3, n3, d3, rfl, hps, hcs, hb⟩
              have HSM := hid hps
              clear hps hcs
              replace HNX := hid (HNX.out.below hb)
              refine hK.out _ _ (⟨hS.1.step hb, hS.2.trans (hb.mono hS.2.size)⟩) (fun hS => ?_)
              clear hK K
              try simp only [List.setIfInBounds_toArray, List.set_cons_zero, List.set_cons_succ]
              refine wpAnyH_ready (rs := [6]) (by kernel_rfl) (by simp) ?_
              refine AllReadyH.cons (o := _) rfl (fun K hK => ?_) AllReadyH.nil
              have hn3 := some_n HOK.out HSM.out
              go_simp
              refine (prog_any (someP p ((andN (2 ^ rn - 1) N : Nat) : Int)) lp ln lc tp tn tc q3 n3 d3 _ HSM.out (by omega) (by omega) (by omega)).mono ?_
              rintro e v6 ⟨lqq, lcc, tqq, tcc, rqq, rcc, rfl, hpx, hcx, hb⟩
              have HPX := hid hpx
              clear hpx hcx
              replace HNX := hid (HNX.out.below hb)
              replace HSM := hid (HSM.out.below hb)
              refine hK.out _ _ (⟨hS.1.step hb, hS.2.trans (hb.mono hS.2.size)⟩) (fun hS => ?_)
              clear hK K
              try simp only [List.setIfInBounds_toArray, List.set_cons_zero, List.set_cons_succ]
              refine wpAnyH_ready (rs := [7]) (by kernel_rfl) (by simp) ?_
              refine AllReadyH.cons (o := _) rfl (fun K hK => ?_) AllReadyH.nil
              go_simp
              refine (net_any (someP p ((andN (2 ^ rn - 1) N : Nat) : Int)) lqq ln lcc tqq tn tcc rqq n3 rcc _ HPX.out).mono ?_
              rintro e v7 ⟨rfl, hb⟩
              obtain ⟨R, hR⟩ : ∃ R, netP (someP p ((andN (2 ^ rn - 1) N : Nat) : Int)) = R := ⟨_, rfl⟩
              rw [hR, HER2.out]
              clear hR
              replace HNX := hid (HNX.out.below hb)
              replace HPX := hid (HPX.out.below hb)
              refine hK.out _ _ (⟨hS.1.step hb, hS.2.trans (hb.mono hS.2.size)⟩) (fun hS => ?_)
              clear hK K
              try simp only [List.setIfInBounds_toArray, List.set_cons_zero, List.set_cons_succ]
              refine tkH (i := 8) (v := ?_) (fun V hV => ?_) ?_
              rotate_left
              · go_simp
                try with_reducible rfl
              try simp only [Act.put, List.getElem_toArray, List.getElem_cons_zero, List.getElem_cons_succ, List.setIfInBounds_toArray, List.set_cons_zero, List.set_cons_succ]
              refine tkH (i := 9) (v := ?_) (fun V hV => ?_) ?_
              rotate_left
              · go_simp
                try with_reducible rfl
              try simp only [Act.put, List.getElem_toArray, List.getElem_cons_zero, List.getElem_cons_succ, List.setIfInBounds_toArray, List.set_cons_zero, List.set_cons_succ]
              refine tkH (i := 10) (v := ?_) (fun V hV => ?_) ?_
              rotate_left
              · go_simp
                try with_reducible rfl
              try simp only [Act.put, List.getElem_toArray, List.getElem_cons_zero, List.getElem_cons_succ, List.setIfInBounds_toArray, List.set_cons_zero, List.set_cons_succ]
              refine wpAnyH_ready (rs := [12]) (by kernel_rfl) (by simp) ?_
              refine AllReadyH.cons (o := _) rfl (fun K hK => ?_) AllReadyH.nil
              have k0 := (HNX.out.2 0 (.int .i64 0) rfl).1; have f0 := (HNX.out.2 0 (.int .i64 0) rfl).2
              have k1 := (HNX.out.2 1 (.int .i64 0) rfl).1; have f1 := (HNX.out.2 1 (.int .i64 0) rfl).2
              have HP : Hid (BoxIs wd.heap.size #[.int .i64 R.lo, .int .i64 R.hi] ((v7.setCell ⟨wd.heap.size, 0, none⟩ (.int .i64 R.lo)).setCell ⟨wd.heap.size, 1, none⟩ (.int .i64 R.hi))) := hid ((HNX.out.put (j := 0) (.int .i64 R.lo)).put (j := 1) (.int .i64 R.hi))
              have HNQ := hid (((Near.refl (fun i => i = wd.heap.size) v7).setCell (p := ⟨wd.heap.size, 0, none⟩) (fun _ => rfl) (.int .i64 R.lo)).setCell (p := ⟨wd.heap.size, 1, none⟩) (fun _ => rfl) (.int .i64 R.hi))
              have HSW := hid (hS.1.step' ((((Below.refl wd.heap.size v7).setCell (p := ⟨wd.heap.size, 0, none⟩) HLHNX.out (.int .i64 R.lo)).setCell (p := ⟨wd.heap.size, 1, none⟩) HLHNX.out (.int .i64 R.hi)).mono HD.out.size))
              have HSB := hid (hS.2.trans (((Below.refl wd.heap.size v7).setCell (p := ⟨wd.heap.size, 0, none⟩) HLHNX.out (.int .i64 R.lo)).setCell (p := ⟨wd.heap.size, 1, none⟩) HLHNX.out (.int .i64 R.hi)))
              clear hS
              go_simp
              clear k0 f0 k1 f1
              generalize ((v7.setCell ⟨wd.heap.size, 0, none⟩ (.int .i64 R.lo)).setCell ⟨wd.heap.size, 1, none⟩ (.int .i64 R.hi)) = v12 at HP HSW HSB HNQ   ⊢
              replace HNX := HP
              clear HNQ
              refine hK.out _ _ (⟨HSW.out, HSB.out⟩) (fun hS => ?_)
              clear hK K
              try simp only [List.setIfInBounds_toArray, List.set_cons_zero, List.set_cons_succ]
              refine tkH (i := 13) (v := ?_) (fun V hV => ?_) ?_
              rotate_left
              · go_simp
                try with_reducible rfl
              try simp only [Act.put, List.getElem_toArray, List.getElem_cons_zero, List.getElem_cons_succ, List.setIfInBounds_toArray, List.set_cons_zero, List.set_cons_succ]
              refine wpAnyH_done (by kernel_rfl) ?_ _
              go_wp2
              go_meet
              case rel => exact ⟨_, rfl, rfl, hS.1, HWD.out.trans (hS.2.mono HWD.out.size)⟩
            case rest =>
              obtain ⟨bn15, rfl, rfl, hbx, hbw⟩ := hcut
              have H7 := hid hbx; replace HXI := hid (HXI.out.below hbw)
              clear hbx hbw
              generalize wc = w7 at H7 HXI ⊢
              go_wp2_with fail
              (with_reducible refine (awake_any _).mono ?_)
              rintro e w99 ⟨rfl, hb⟩
              go_wp2_with fail
              go_ret
              exact ⟨rfl, H7.out.below.trans (hb.mono H7.out.below.size)⟩
          · skip
            have HER2 : Hid (errP (someP p ((andN (2 ^ rn - 1) N : Nat) : Int)) = 0) := hid (by rw [err_some HOK.out, hpo]; rfl)
            have HSH := hid (HNO.out hpo)
            clear hpo
            go_upto_region 15 with fail
            go_cut [12, 13] from 14 (fun a10 a11 wr => ∃ b, a10 = .pointer (some ⟨b, 0, none⟩) ∧ a11 = .int .i64 0 ∧ Boxed1 w #[.slice lp ln lc, .int .i64 p.reserve, .slice tp tn tc, .slice rp rn rc] 26 wr ∧ Below w6.heap.size w6 wr)
            case first =>
              obtain ⟨wd, hwd⟩ : ∃ V, w6.drew = V := ⟨_, rfl⟩
              have HD := hid H6.out.drew
              rw [hwd] at HD
              have HWD : Hid (Below w6.heap.size w6 wd) := hid (by rw [← hwd]; exact (Below.refl _ _).drew)
              refine wp_region_held_drew (S := fun V => Boxed1 w #[.slice lp ln lc, .int .i64 p.reserve, .slice tp tn tc, .slice rp rn rc] 26 V ∧ Below wd.heap.size wd V) (by kernel_rfl) (by rw [hwd]; exact ⟨HD.out, Below.refl _ _⟩) (fun hS => ?_)
              rw [hwd] at hS ⊢
              clear hwd
              simp only [List.size_toArray, List.length_cons, List.length_nil, Nat.reduceAdd, Array.replicate_succ, Array.replicate_zero, List.push_toArray, List.nil_append, List.cons_append]
              refine tkH (i := 0) (v := ?_) (fun V hV => ?_) ?_
              rotate_left
              · have e0 := hV.1.cell 0 (v := .slice lp ln lc) rfl; have e1 := hV.1.cell 1 (v := .int .i64 p.reserve) rfl; have e2 := hV.1.cell 2 (v := .slice tp tn tc) rfl; have e3 := hV.1.cell 3 (v := .slice rp rn rc) rfl; go_simp
                try with_reducible rfl
              try simp only [Act.put, List.getElem_toArray, List.getElem_cons_zero, List.setIfInBounds_toArray, List.set_cons_zero, List.set_cons_succ]
              refine tkH (i := 1) (v := ?_) (fun V hV => ?_) ?_
              rotate_left
              · have e0 := hV.1.cell 0 (v := .slice lp ln lc) rfl; have e1 := hV.1.cell 1 (v := .int .i64 p.reserve) rfl; have e2 := hV.1.cell 2 (v := .slice tp tn tc) rfl; have e3 := hV.1.cell 3 (v := .slice rp rn rc) rfl; go_simp
                try with_reducible rfl
              try simp only [Act.put, List.getElem_toArray, List.getElem_cons_zero, List.getElem_cons_succ, List.setIfInBounds_toArray, List.set_cons_zero, List.set_cons_succ]
              refine tkH (i := 3) (v := ?_) (fun V hV => ?_) ?_
              rotate_left
              · go_simp
                try with_reducible rfl
              try simp only [Act.put, List.getElem_toArray, List.getElem_cons_zero, List.getElem_cons_succ, List.setIfInBounds_toArray, List.set_cons_zero, List.set_cons_succ]
              refine wpAnyH_ready (rs := [2, 11]) (by kernel_rfl) (by simp) ?_
              refine AllReadyH.cons (o := _) rfl (fun K hK => ?_) ?_
              · skip
                go_simp
                (with_reducible refine (full_any p lp ln lc tp tn tc rp rn rc _ (by omega)).mono ?_)
                rintro e v2 ⟨rfl, hb⟩
                refine hK.out _ _ (⟨hS.1.step hb, hS.2.trans (hb.mono hS.2.size)⟩) (fun hS => ?_)
                clear hK K
                try simp only [List.setIfInBounds_toArray, List.set_cons_zero, List.set_cons_succ]
                refine tkH (i := 4) (v := ?_) (fun V hV => ?_) ?_
                rotate_left
                · have q1 := HAN15.out; go_simp
                  try with_reducible rfl
                try simp only [Act.put, List.getElem_toArray, List.getElem_cons_zero, List.getElem_cons_succ, List.setIfInBounds_toArray, List.set_cons_zero, List.set_cons_succ]
                refine wpAnyH_ready (rs := [5, 11]) (by kernel_rfl) (by simp) ?_
                refine AllReadyH.cons (o := _) rfl (fun K hK => ?_) ?_
                · skip
                  go_simp
                  refine (some_any p lp ln lc tp tn tc rp rn rc ((andN (2 ^ rn - 1) N : Nat) : Int) _ (HP.out.below hS.1.below) (by omega) (by omega) (by have := andN_lt (2 ^ rn - 1) N; omega)).mono ?_
                  rintro e v5 ⟨q3, n3, d3, rfl, hps, hcs, hb⟩
                  have HSM := hid hps
                  clear hps hcs
                  refine hK.out _ _ (⟨hS.1.step hb, hS.2.trans (hb.mono hS.2.size)⟩) (fun hS => ?_)
                  clear hK K
                  try simp only [List.setIfInBounds_toArray, List.set_cons_zero, List.set_cons_succ]
                  refine wpAnyH_ready (rs := [6, 11]) (by kernel_rfl) (by simp) ?_
                  refine AllReadyH.cons (o := _) rfl (fun K hK => ?_) ?_
                  · skip
                    have hn3 := some_n HOK.out HSM.out
                    go_simp
                    refine (prog_any (someP p ((andN (2 ^ rn - 1) N : Nat) : Int)) lp ln lc tp tn tc q3 n3 d3 _ HSM.out (by omega) (by omega) (by omega)).mono ?_
                    rintro e v6 ⟨lqq, lcc, tqq, tcc, rqq, rcc, rfl, hpx, hcx, hb⟩
                    have HPX := hid hpx
                    clear hpx hcx
                    replace HSM := hid (HSM.out.below hb)
                    refine hK.out _ _ (⟨hS.1.step hb, hS.2.trans (hb.mono hS.2.size)⟩) (fun hS => ?_)
                    clear hK K
                    try simp only [List.setIfInBounds_toArray, List.set_cons_zero, List.set_cons_succ]
                    refine wpAnyH_ready (rs := [7, 11]) (by kernel_rfl) (by simp) ?_
                    refine AllReadyH.cons (o := _) rfl (fun K hK => ?_) ?_
                    · skip
                      go_simp
                      refine (net_any (someP p ((andN (2 ^ rn - 1) N : Nat) : Int)) lqq ln lcc tqq tn tcc rqq n3 rcc _ HPX.out).mono ?_
                      rintro e v7 ⟨rfl, hb⟩
                      obtain ⟨R, hR⟩ : ∃ R, netP (someP p ((andN (2 ^ rn - 1) N : Nat) : Int)) = R := ⟨_, rfl⟩
                      rw [hR, HER2.out]
                      clear hR
                      replace HPX := hid (HPX.out.below hb)
                      refine hK.out _ _ (⟨hS.1.step hb, hS.2.trans (hb.mono hS.2.size)⟩) (fun hS => ?_)
                      clear hK K
                      try simp only [List.setIfInBounds_toArray, List.set_cons_zero, List.set_cons_succ]
                      refine tkH (i := 8) (v := ?_) (fun V hV => ?_) ?_
                      rotate_left
                      · go_simp
                        try with_reducible rfl
                      try simp only [Act.put, List.getElem_toArray, List.getElem_cons_zero, List.getElem_cons_succ, List.setIfInBounds_toArray, List.set_cons_zero, List.set_cons_succ]
                      refine tkH (i := 9) (v := ?_) (fun V hV => ?_) ?_
                      rotate_left
                      · go_simp
                        try with_reducible rfl
                      try simp only [Act.put, List.getElem_toArray, List.getElem_cons_zero, List.getElem_cons_succ, List.setIfInBounds_toArray, List.set_cons_zero, List.set_cons_succ]
                      refine tkH (i := 10) (v := ?_) (fun V hV => ?_) ?_
                      rotate_left
                      · go_simp
                        try with_reducible rfl
                      try simp only [Act.put, List.getElem_toArray, List.getElem_cons_zero, List.getElem_cons_succ, List.setIfInBounds_toArray, List.set_cons_zero, List.set_cons_succ]
                      refine wpAnyH_ready (rs := [11]) (by kernel_rfl) (by simp) ?_
                      refine AllReadyH.cons (o := _) rfl (fun K hK => ?_) AllReadyH.nil
                      obtain ⟨v11, hv11⟩ : ∃ V, v7.alloc (.cells #[.int .i64 0, .int .i64 0] 51) = V := ⟨_, rfl⟩
                      have hb : Below v7.heap.size v7 v11 := by rw [← hv11]; exact (Below.refl _ _).alloc (Nat.le_refl _) _
                      have HNX : Hid (BoxIs v7.heap.size #[.int .i64 0, .int .i64 0] v11) := hid (by rw [← hv11]; exact BoxIs.start _ _ _)
                      have HLHNX : Hid (wd.heap.size ≤ v7.heap.size) := hid hS.2.size
                      have HS3 := hid (show Boxed1 w #[.slice lp ln lc, .int .i64 p.reserve, .slice tp tn tc, .slice rp rn rc] 26 v11 ∧ Below wd.heap.size wd v11 from ⟨hS.1.step hb, hS.2.trans (hb.mono hS.2.size)⟩)
                      clear hS hb
                      go_simp
                      clear hv11
                      refine hK.out _ _ (HS3.out) (fun hS => ?_)
                      clear hK K
                      try simp only [List.setIfInBounds_toArray, List.set_cons_zero, List.set_cons_succ]
                      refine wpAnyH_ready (rs := [12]) (by kernel_rfl) (by simp) ?_
                      refine AllReadyH.cons (o := _) rfl (fun K hK => ?_) AllReadyH.nil
                      have k0 := (HNX.out.2 0 (.int .i64 0) rfl).1; have f0 := (HNX.out.2 0 (.int .i64 0) rfl).2
                      have k1 := (HNX.out.2 1 (.int .i64 0) rfl).1; have f1 := (HNX.out.2 1 (.int .i64 0) rfl).2
                      have HP : Hid (BoxIs v7.heap.size #[.int .i64 R.lo, .int .i64 R.hi] ((v11.setCell ⟨v7.heap.size, 0, none⟩ (.int .i64 R.lo)).setCell ⟨v7.heap.size, 1, none⟩ (.int .i64 R.hi))) := hid ((HNX.out.put (j := 0) (.int .i64 R.lo)).put (j := 1) (.int .i64 R.hi))
                      have HNQ := hid (((Near.refl (fun i => i = v7.heap.size) v11).setCell (p := ⟨v7.heap.size, 0, none⟩) (fun _ => rfl) (.int .i64 R.lo)).setCell (p := ⟨v7.heap.size, 1, none⟩) (fun _ => rfl) (.int .i64 R.hi))
                      have HSW := hid (hS.1.step' ((((Below.refl wd.heap.size v11).setCell (p := ⟨v7.heap.size, 0, none⟩) HLHNX.out (.int .i64 R.lo)).setCell (p := ⟨v7.heap.size, 1, none⟩) HLHNX.out (.int .i64 R.hi)).mono HD.out.size))
                      have HSB := hid (hS.2.trans (((Below.refl wd.heap.size v11).setCell (p := ⟨v7.heap.size, 0, none⟩) HLHNX.out (.int .i64 R.lo)).setCell (p := ⟨v7.heap.size, 1, none⟩) HLHNX.out (.int .i64 R.hi)))
                      clear hS
                      go_simp
                      clear k0 f0 k1 f1
                      generalize ((v11.setCell ⟨v7.heap.size, 0, none⟩ (.int .i64 R.lo)).setCell ⟨v7.heap.size, 1, none⟩ (.int .i64 R.hi)) = v12 at HP HSW HSB HNQ   ⊢
                      replace HNX := HP
                      clear HNQ
                      refine hK.out _ _ (⟨HSW.out, HSB.out⟩) (fun hS => ?_)
                      clear hK K
                      try simp only [List.setIfInBounds_toArray, List.set_cons_zero, List.set_cons_succ]
                      refine tkH (i := 13) (v := ?_) (fun V hV => ?_) ?_
                      rotate_left
                      · go_simp
                        try with_reducible rfl
                      try simp only [Act.put, List.getElem_toArray, List.getElem_cons_zero, List.getElem_cons_succ, List.setIfInBounds_toArray, List.set_cons_zero, List.set_cons_succ]
                      refine wpAnyH_done (by kernel_rfl) ?_ _
                      go_wp2
                      go_meet
                      case rel => exact ⟨_, rfl, rfl, hS.1, HWD.out.trans (hS.2.mono HWD.out.size)⟩
                    refine AllReadyH.cons (o := _) rfl (fun K hK => ?_) AllReadyH.nil
                    obtain ⟨v11, hv11⟩ : ∃ V, v6.alloc (.cells #[.int .i64 0, .int .i64 0] 51) = V := ⟨_, rfl⟩
                    have hb : Below v6.heap.size v6 v11 := by rw [← hv11]; exact (Below.refl _ _).alloc (Nat.le_refl _) _
                    have HNX : Hid (BoxIs v6.heap.size #[.int .i64 0, .int .i64 0] v11) := hid (by rw [← hv11]; exact BoxIs.start _ _ _)
                    have HLHNX : Hid (wd.heap.size ≤ v6.heap.size) := hid hS.2.size
                    replace HPX := hid (HPX.out.below hb)
                    have HS3 := hid (show Boxed1 w #[.slice lp ln lc, .int .i64 p.reserve, .slice tp tn tc, .slice rp rn rc] 26 v11 ∧ Below wd.heap.size wd v11 from ⟨hS.1.step hb, hS.2.trans (hb.mono hS.2.size)⟩)
                    clear hS hb
                    go_simp
                    clear hv11
                    refine hK.out _ _ (HS3.out) (fun hS => ?_)
                    clear hK K
                    try simp only [List.setIfInBounds_toArray, List.set_cons_zero, List.set_cons_succ]
                    refine wpAnyH_ready (rs := [7]) (by kernel_rfl) (by simp) ?_
                    refine AllReadyH.cons (o := _) rfl (fun K hK => ?_) AllReadyH.nil
                    go_simp
                    refine (net_any (someP p ((andN (2 ^ rn - 1) N : Nat) : Int)) lqq ln lcc tqq tn tcc rqq n3 rcc _ HPX.out).mono ?_
                    rintro e v7 ⟨rfl, hb⟩
                    obtain ⟨R, hR⟩ : ∃ R, netP (someP p ((andN (2 ^ rn - 1) N : Nat) : Int)) = R := ⟨_, rfl⟩
                    rw [hR, HER2.out]
                    clear hR
                    replace HNX := hid (HNX.out.below hb)
                    replace HPX := hid (HPX.out.below hb)
                    refine hK.out _ _ (⟨hS.1.step hb, hS.2.trans (hb.mono hS.2.size)⟩) (fun hS => ?_)
                    clear hK K
                    try simp only [List.setIfInBounds_toArray, List.set_cons_zero, List.set_cons_succ]
                    refine tkH (i := 8) (v := ?_) (fun V hV => ?_) ?_
                    rotate_left
                    · go_simp
                      try with_reducible rfl
                    try simp only [Act.put, List.getElem_toArray, List.getElem_cons_zero, List.getElem_cons_succ, List.setIfInBounds_toArray, List.set_cons_zero, List.set_cons_succ]
                    refine tkH (i := 9) (v := ?_) (fun V hV => ?_) ?_
                    rotate_left
                    · go_simp
                      try with_reducible rfl
                    try simp only [Act.put, List.getElem_toArray, List.getElem_cons_zero, List.getElem_cons_succ, List.setIfInBounds_toArray, List.set_cons_zero, List.set_cons_succ]
                    refine tkH (i := 10) (v := ?_) (fun V hV => ?_) ?_
                    rotate_left
                    · go_simp
                      try with_reducible rfl
                    try simp only [Act.put, List.getElem_toArray, List.getElem_cons_zero, List.getElem_cons_succ, List.setIfInBounds_toArray, List.set_cons_zero, List.set_cons_succ]
                    refine wpAnyH_ready (rs := [12]) (by kernel_rfl) (by simp) ?_
                    refine AllReadyH.cons (o := _) rfl (fun K hK => ?_) AllReadyH.nil
                    have k0 := (HNX.out.2 0 (.int .i64 0) rfl).1; have f0 := (HNX.out.2 0 (.int .i64 0) rfl).2
                    have k1 := (HNX.out.2 1 (.int .i64 0) rfl).1; have f1 := (HNX.out.2 1 (.int .i64 0) rfl).2
                    have HP : Hid (BoxIs v6.heap.size #[.int .i64 R.lo, .int .i64 R.hi] ((v7.setCell ⟨v6.heap.size, 0, none⟩ (.int .i64 R.lo)).setCell ⟨v6.heap.size, 1, none⟩ (.int .i64 R.hi))) := hid ((HNX.out.put (j := 0) (.int .i64 R.lo)).put (j := 1) (.int .i64 R.hi))
                    have HNQ := hid (((Near.refl (fun i => i = v6.heap.size) v7).setCell (p := ⟨v6.heap.size, 0, none⟩) (fun _ => rfl) (.int .i64 R.lo)).setCell (p := ⟨v6.heap.size, 1, none⟩) (fun _ => rfl) (.int .i64 R.hi))
                    have HSW := hid (hS.1.step' ((((Below.refl wd.heap.size v7).setCell (p := ⟨v6.heap.size, 0, none⟩) HLHNX.out (.int .i64 R.lo)).setCell (p := ⟨v6.heap.size, 1, none⟩) HLHNX.out (.int .i64 R.hi)).mono HD.out.size))
                    have HSB := hid (hS.2.trans (((Below.refl wd.heap.size v7).setCell (p := ⟨v6.heap.size, 0, none⟩) HLHNX.out (.int .i64 R.lo)).setCell (p := ⟨v6.heap.size, 1, none⟩) HLHNX.out (.int .i64 R.hi)))
                    clear hS
                    go_simp
                    clear k0 f0 k1 f1
                    generalize ((v7.setCell ⟨v6.heap.size, 0, none⟩ (.int .i64 R.lo)).setCell ⟨v6.heap.size, 1, none⟩ (.int .i64 R.hi)) = v12 at HP HSW HSB HNQ   ⊢
                    replace HNX := HP
                    clear HNQ
                    refine hK.out _ _ (⟨HSW.out, HSB.out⟩) (fun hS => ?_)
                    clear hK K
                    try simp only [List.setIfInBounds_toArray, List.set_cons_zero, List.set_cons_succ]
                    refine tkH (i := 13) (v := ?_) (fun V hV => ?_) ?_
                    rotate_left
                    · go_simp
                      try with_reducible rfl
                    try simp only [Act.put, List.getElem_toArray, List.getElem_cons_zero, List.getElem_cons_succ, List.setIfInBounds_toArray, List.set_cons_zero, List.set_cons_succ]
                    refine wpAnyH_done (by kernel_rfl) ?_ _
                    go_wp2
                    go_meet
                    case rel => exact ⟨_, rfl, rfl, hS.1, HWD.out.trans (hS.2.mono HWD.out.size)⟩
                  refine AllReadyH.cons (o := _) rfl (fun K hK => ?_) AllReadyH.nil
                  obtain ⟨v11, hv11⟩ : ∃ V, v5.alloc (.cells #[.int .i64 0, .int .i64 0] 51) = V := ⟨_, rfl⟩
                  have hb : Below v5.heap.size v5 v11 := by rw [← hv11]; exact (Below.refl _ _).alloc (Nat.le_refl _) _
                  have HNX : Hid (BoxIs v5.heap.size #[.int .i64 0, .int .i64 0] v11) := hid (by rw [← hv11]; exact BoxIs.start _ _ _)
                  have HLHNX : Hid (wd.heap.size ≤ v5.heap.size) := hid hS.2.size
                  replace HSM := hid (HSM.out.below hb)
                  have HS3 := hid (show Boxed1 w #[.slice lp ln lc, .int .i64 p.reserve, .slice tp tn tc, .slice rp rn rc] 26 v11 ∧ Below wd.heap.size wd v11 from ⟨hS.1.step hb, hS.2.trans (hb.mono hS.2.size)⟩)
                  clear hS hb
                  go_simp
                  clear hv11
                  refine hK.out _ _ (HS3.out) (fun hS => ?_)
                  clear hK K
                  try simp only [List.setIfInBounds_toArray, List.set_cons_zero, List.set_cons_succ]
                  refine wpAnyH_ready (rs := [6]) (by kernel_rfl) (by simp) ?_
                  refine AllReadyH.cons (o := _) rfl (fun K hK => ?_) AllReadyH.nil
                  have hn3 := some_n HOK.out HSM.out
                  go_simp
                  refine (prog_any (someP p ((andN (2 ^ rn - 1) N : Nat) : Int)) lp ln lc tp tn tc q3 n3 d3 _ HSM.out (by omega) (by omega) (by omega)).mono ?_
                  rintro e v6 ⟨lqq, lcc, tqq, tcc, rqq, rcc, rfl, hpx, hcx, hb⟩
                  have HPX := hid hpx
                  clear hpx hcx
                  replace HNX := hid (HNX.out.below hb)
                  replace HSM := hid (HSM.out.below hb)
                  refine hK.out _ _ (⟨hS.1.step hb, hS.2.trans (hb.mono hS.2.size)⟩) (fun hS => ?_)
                  clear hK K
                  try simp only [List.setIfInBounds_toArray, List.set_cons_zero, List.set_cons_succ]
                  refine wpAnyH_ready (rs := [7]) (by kernel_rfl) (by simp) ?_
                  refine AllReadyH.cons (o := _) rfl (fun K hK => ?_) AllReadyH.nil
                  go_simp
                  refine (net_any (someP p ((andN (2 ^ rn - 1) N : Nat) : Int)) lqq ln lcc tqq tn tcc rqq n3 rcc _ HPX.out).mono ?_
                  rintro e v7 ⟨rfl, hb⟩
                  obtain ⟨R, hR⟩ : ∃ R, netP (someP p ((andN (2 ^ rn - 1) N : Nat) : Int)) = R := ⟨_, rfl⟩
                  rw [hR, HER2.out]
                  clear hR
                  replace HNX := hid (HNX.out.below hb)
                  replace HPX := hid (HPX.out.below hb)
                  refine hK.out _ _ (⟨hS.1.step hb, hS.2.trans (hb.mono hS.2.size)⟩) (fun hS => ?_)
                  clear hK K
                  try simp only [List.setIfInBounds_toArray, List.set_cons_zero, List.set_cons_succ]
                  refine tkH (i := 8) (v := ?_) (fun V hV => ?_) ?_
                  rotate_left
                  · go_simp
                    try with_reducible rfl
                  try simp only [Act.put, List.getElem_toArray, List.getElem_cons_zero, List.getElem_cons_succ, List.setIfInBounds_toArray, List.set_cons_zero, List.set_cons_succ]
                  refine tkH (i := 9) (v := ?_) (fun V hV => ?_) ?_
                  rotate_left
                  · go_simp
                    try with_reducible rfl
                  try simp only [Act.put, List.getElem_toArray, List.getElem_cons_zero, List.getElem_cons_succ, List.setIfInBounds_toArray, List.set_cons_zero, List.set_cons_succ]
                  refine tkH (i := 10) (v := ?_) (fun V hV => ?_) ?_
                  rotate_left
                  · go_simp
                    try with_reducible rfl
                  try simp only [Act.put, List.getElem_toArray, List.getElem_cons_zero, List.getElem_cons_succ, List.setIfInBounds_toArray, List.set_cons_zero, List.set_cons_succ]
                  refine wpAnyH_ready (rs := [12]) (by kernel_rfl) (by simp) ?_
                  refine AllReadyH.cons (o := _) rfl (fun K hK => ?_) AllReadyH.nil
                  have k0 := (HNX.out.2 0 (.int .i64 0) rfl).1; have f0 := (HNX.out.2 0 (.int .i64 0) rfl).2
                  have k1 := (HNX.out.2 1 (.int .i64 0) rfl).1; have f1 := (HNX.out.2 1 (.int .i64 0) rfl).2
                  have HP : Hid (BoxIs v5.heap.size #[.int .i64 R.lo, .int .i64 R.hi] ((v7.setCell ⟨v5.heap.size, 0, none⟩ (.int .i64 R.lo)).setCell ⟨v5.heap.size, 1, none⟩ (.int .i64 R.hi))) := hid ((HNX.out.put (j := 0) (.int .i64 R.lo)).put (j := 1) (.int .i64 R.hi))
                  have HNQ := hid (((Near.refl (fun i => i = v5.heap.size) v7).setCell (p := ⟨v5.heap.size, 0, none⟩) (fun _ => rfl) (.int .i64 R.lo)).setCell (p := ⟨v5.heap.size, 1, none⟩) (fun _ => rfl) (.int .i64 R.hi))
                  have HSW := hid (hS.1.step' ((((Below.refl wd.heap.size v7).setCell (p := ⟨v5.heap.size, 0, none⟩) HLHNX.out (.int .i64 R.lo)).setCell (p := ⟨v5.heap.size, 1, none⟩) HLHNX.out (.int .i64 R.hi)).mono HD.out.size))
                  have HSB := hid (hS.2.trans (((Below.refl wd.heap.size v7).setCell (p := ⟨v5.heap.size, 0, none⟩) HLHNX.out (.int .i64 R.lo)).setCell (p := ⟨v5.heap.size, 1, none⟩) HLHNX.out (.int .i64 R.hi)))
                  clear hS
                  go_simp
                  clear k0 f0 k1 f1
                  generalize ((v7.setCell ⟨v5.heap.size, 0, none⟩ (.int .i64 R.lo)).setCell ⟨v5.heap.size, 1, none⟩ (.int .i64 R.hi)) = v12 at HP HSW HSB HNQ   ⊢
                  replace HNX := HP
                  clear HNQ
                  refine hK.out _ _ (⟨HSW.out, HSB.out⟩) (fun hS => ?_)
                  clear hK K
                  try simp only [List.setIfInBounds_toArray, List.set_cons_zero, List.set_cons_succ]
                  refine tkH (i := 13) (v := ?_) (fun V hV => ?_) ?_
                  rotate_left
                  · go_simp
                    try with_reducible rfl
                  try simp only [Act.put, List.getElem_toArray, List.getElem_cons_zero, List.getElem_cons_succ, List.setIfInBounds_toArray, List.set_cons_zero, List.set_cons_succ]
                  refine wpAnyH_done (by kernel_rfl) ?_ _
                  go_wp2
                  go_meet
                  case rel => exact ⟨_, rfl, rfl, hS.1, HWD.out.trans (hS.2.mono HWD.out.size)⟩
                refine AllReadyH.cons (o := _) rfl (fun K hK => ?_) AllReadyH.nil
                obtain ⟨v11, hv11⟩ : ∃ V, v2.alloc (.cells #[.int .i64 0, .int .i64 0] 51) = V := ⟨_, rfl⟩
                have hb : Below v2.heap.size v2 v11 := by rw [← hv11]; exact (Below.refl _ _).alloc (Nat.le_refl _) _
                have HNX : Hid (BoxIs v2.heap.size #[.int .i64 0, .int .i64 0] v11) := hid (by rw [← hv11]; exact BoxIs.start _ _ _)
                have HLHNX : Hid (wd.heap.size ≤ v2.heap.size) := hid hS.2.size
                have HS3 := hid (show Boxed1 w #[.slice lp ln lc, .int .i64 p.reserve, .slice tp tn tc, .slice rp rn rc] 26 v11 ∧ Below wd.heap.size wd v11 from ⟨hS.1.step hb, hS.2.trans (hb.mono hS.2.size)⟩)
                clear hS hb
                go_simp
                clear hv11
                refine hK.out _ _ (HS3.out) (fun hS => ?_)
                clear hK K
                try simp only [List.setIfInBounds_toArray, List.set_cons_zero, List.set_cons_succ]
                refine wpAnyH_ready (rs := [5]) (by kernel_rfl) (by simp) ?_
                refine AllReadyH.cons (o := _) rfl (fun K hK => ?_) AllReadyH.nil
                go_simp
                refine (some_any p lp ln lc tp tn tc rp rn rc ((andN (2 ^ rn - 1) N : Nat) : Int) _ (HP.out.below hS.1.below) (by omega) (by omega) (by have := andN_lt (2 ^ rn - 1) N; omega)).mono ?_
                rintro e v5 ⟨q3, n3, d3, rfl, hps, hcs, hb⟩
                have HSM := hid hps
                clear hps hcs
                replace HNX := hid (HNX.out.below hb)
                refine hK.out _ _ (⟨hS.1.step hb, hS.2.trans (hb.mono hS.2.size)⟩) (fun hS => ?_)
                clear hK K
                try simp only [List.setIfInBounds_toArray, List.set_cons_zero, List.set_cons_succ]
                refine wpAnyH_ready (rs := [6]) (by kernel_rfl) (by simp) ?_
                refine AllReadyH.cons (o := _) rfl (fun K hK => ?_) AllReadyH.nil
                have hn3 := some_n HOK.out HSM.out
                go_simp
                refine (prog_any (someP p ((andN (2 ^ rn - 1) N : Nat) : Int)) lp ln lc tp tn tc q3 n3 d3 _ HSM.out (by omega) (by omega) (by omega)).mono ?_
                rintro e v6 ⟨lqq, lcc, tqq, tcc, rqq, rcc, rfl, hpx, hcx, hb⟩
                have HPX := hid hpx
                clear hpx hcx
                replace HNX := hid (HNX.out.below hb)
                replace HSM := hid (HSM.out.below hb)
                refine hK.out _ _ (⟨hS.1.step hb, hS.2.trans (hb.mono hS.2.size)⟩) (fun hS => ?_)
                clear hK K
                try simp only [List.setIfInBounds_toArray, List.set_cons_zero, List.set_cons_succ]
                refine wpAnyH_ready (rs := [7]) (by kernel_rfl) (by simp) ?_
                refine AllReadyH.cons (o := _) rfl (fun K hK => ?_) AllReadyH.nil
                go_simp
                refine (net_any (someP p ((andN (2 ^ rn - 1) N : Nat) : Int)) lqq ln lcc tqq tn tcc rqq n3 rcc _ HPX.out).mono ?_
                rintro e v7 ⟨rfl, hb⟩
                obtain ⟨R, hR⟩ : ∃ R, netP (someP p ((andN (2 ^ rn - 1) N : Nat) : Int)) = R := ⟨_, rfl⟩
                rw [hR, HER2.out]
                clear hR
                replace HNX := hid (HNX.out.below hb)
                replace HPX := hid (HPX.out.below hb)
                refine hK.out _ _ (⟨hS.1.step hb, hS.2.trans (hb.mono hS.2.size)⟩) (fun hS => ?_)
                clear hK K
                try simp only [List.setIfInBounds_toArray, List.set_cons_zero, List.set_cons_succ]
                refine tkH (i := 8) (v := ?_) (fun V hV => ?_) ?_
                rotate_left
                · go_simp
                  try with_reducible rfl
                try simp only [Act.put, List.getElem_toArray, List.getElem_cons_zero, List.getElem_cons_succ, List.setIfInBounds_toArray, List.set_cons_zero, List.set_cons_succ]
                refine tkH (i := 9) (v := ?_) (fun V hV => ?_) ?_
                rotate_left
                · go_simp
                  try with_reducible rfl
                try simp only [Act.put, List.getElem_toArray, List.getElem_cons_zero, List.getElem_cons_succ, List.setIfInBounds_toArray, List.set_cons_zero, List.set_cons_succ]
                refine tkH (i := 10) (v := ?_) (fun V hV => ?_) ?_
                rotate_left
                · go_simp
                  try with_reducible rfl
                try simp only [Act.put, List.getElem_toArray, List.getElem_cons_zero, List.getElem_cons_succ, List.setIfInBounds_toArray, List.set_cons_zero, List.set_cons_succ]
                refine wpAnyH_ready (rs := [12]) (by kernel_rfl) (by simp) ?_
                refine AllReadyH.cons (o := _) rfl (fun K hK => ?_) AllReadyH.nil
                have k0 := (HNX.out.2 0 (.int .i64 0) rfl).1; have f0 := (HNX.out.2 0 (.int .i64 0) rfl).2
                have k1 := (HNX.out.2 1 (.int .i64 0) rfl).1; have f1 := (HNX.out.2 1 (.int .i64 0) rfl).2
                have HP : Hid (BoxIs v2.heap.size #[.int .i64 R.lo, .int .i64 R.hi] ((v7.setCell ⟨v2.heap.size, 0, none⟩ (.int .i64 R.lo)).setCell ⟨v2.heap.size, 1, none⟩ (.int .i64 R.hi))) := hid ((HNX.out.put (j := 0) (.int .i64 R.lo)).put (j := 1) (.int .i64 R.hi))
                have HNQ := hid (((Near.refl (fun i => i = v2.heap.size) v7).setCell (p := ⟨v2.heap.size, 0, none⟩) (fun _ => rfl) (.int .i64 R.lo)).setCell (p := ⟨v2.heap.size, 1, none⟩) (fun _ => rfl) (.int .i64 R.hi))
                have HSW := hid (hS.1.step' ((((Below.refl wd.heap.size v7).setCell (p := ⟨v2.heap.size, 0, none⟩) HLHNX.out (.int .i64 R.lo)).setCell (p := ⟨v2.heap.size, 1, none⟩) HLHNX.out (.int .i64 R.hi)).mono HD.out.size))
                have HSB := hid (hS.2.trans (((Below.refl wd.heap.size v7).setCell (p := ⟨v2.heap.size, 0, none⟩) HLHNX.out (.int .i64 R.lo)).setCell (p := ⟨v2.heap.size, 1, none⟩) HLHNX.out (.int .i64 R.hi)))
                clear hS
                go_simp
                clear k0 f0 k1 f1
                generalize ((v7.setCell ⟨v2.heap.size, 0, none⟩ (.int .i64 R.lo)).setCell ⟨v2.heap.size, 1, none⟩ (.int .i64 R.hi)) = v12 at HP HSW HSB HNQ   ⊢
                replace HNX := HP
                clear HNQ
                refine hK.out _ _ (⟨HSW.out, HSB.out⟩) (fun hS => ?_)
                clear hK K
                try simp only [List.setIfInBounds_toArray, List.set_cons_zero, List.set_cons_succ]
                refine tkH (i := 13) (v := ?_) (fun V hV => ?_) ?_
                rotate_left
                · go_simp
                  try with_reducible rfl
                try simp only [Act.put, List.getElem_toArray, List.getElem_cons_zero, List.getElem_cons_succ, List.setIfInBounds_toArray, List.set_cons_zero, List.set_cons_succ]
                refine wpAnyH_done (by kernel_rfl) ?_ _
                go_wp2
                go_meet
                case rel => exact ⟨_, rfl, rfl, hS.1, HWD.out.trans (hS.2.mono HWD.out.size)⟩
              refine AllReadyH.cons (o := _) rfl (fun K hK => ?_) AllReadyH.nil
              obtain ⟨v11, hv11⟩ : ∃ V, wd.alloc (.cells #[.int .i64 0, .int .i64 0] 51) = V := ⟨_, rfl⟩
              have hb : Below wd.heap.size wd v11 := by rw [← hv11]; exact (Below.refl _ _).alloc (Nat.le_refl _) _
              have HNX : Hid (BoxIs wd.heap.size #[.int .i64 0, .int .i64 0] v11) := hid (by rw [← hv11]; exact BoxIs.start _ _ _)
              have HLHNX : Hid (wd.heap.size ≤ wd.heap.size) := hid hS.2.size
              have HS3 := hid (show Boxed1 w #[.slice lp ln lc, .int .i64 p.reserve, .slice tp tn tc, .slice rp rn rc] 26 v11 ∧ Below wd.heap.size wd v11 from ⟨hS.1.step hb, hS.2.trans (hb.mono hS.2.size)⟩)
              clear hS hb
              go_simp
              clear hv11
              refine hK.out _ _ (HS3.out) (fun hS => ?_)
              clear hK K
              try simp only [List.setIfInBounds_toArray, List.set_cons_zero, List.set_cons_succ]
              refine wpAnyH_ready (rs := [2]) (by kernel_rfl) (by simp) ?_
              refine AllReadyH.cons (o := _) rfl (fun K hK => ?_) AllReadyH.nil
              go_simp
              (with_reducible refine (full_any p lp ln lc tp tn tc rp rn rc _ (by omega)).mono ?_)
              rintro e v2 ⟨rfl, hb⟩
              replace HNX := hid (HNX.out.below hb)
              refine hK.out _ _ (⟨hS.1.step hb, hS.2.trans (hb.mono hS.2.size)⟩) (fun hS => ?_)
              clear hK K
              try simp only [List.setIfInBounds_toArray, List.set_cons_zero, List.set_cons_succ]
              refine tkH (i := 4) (v := ?_) (fun V hV => ?_) ?_
              rotate_left
              · have q1 := HAN15.out; go_simp
                try with_reducible rfl
              try simp only [Act.put, List.getElem_toArray, List.getElem_cons_zero, List.getElem_cons_succ, List.setIfInBounds_toArray, List.set_cons_zero, List.set_cons_succ]
              refine wpAnyH_ready (rs := [5]) (by kernel_rfl) (by simp) ?_
              refine AllReadyH.cons (o := _) rfl (fun K hK => ?_) AllReadyH.nil
              go_simp
              refine (some_any p lp ln lc tp tn tc rp rn rc ((andN (2 ^ rn - 1) N : Nat) : Int) _ (HP.out.below hS.1.below) (by omega) (by omega) (by have := andN_lt (2 ^ rn - 1) N; omega)).mono ?_
              rintro e v5 ⟨q3, n3, d3, rfl, hps, hcs, hb⟩
              have HSM := hid hps
              clear hps hcs
              replace HNX := hid (HNX.out.below hb)
              refine hK.out _ _ (⟨hS.1.step hb, hS.2.trans (hb.mono hS.2.size)⟩) (fun hS => ?_)
              clear hK K
              try simp only [List.setIfInBounds_toArray, List.set_cons_zero, List.set_cons_succ]
              refine wpAnyH_ready (rs := [6]) (by kernel_rfl) (by simp) ?_
              refine AllReadyH.cons (o := _) rfl (fun K hK => ?_) AllReadyH.nil
              have hn3 := some_n HOK.out HSM.out
              go_simp
              refine (prog_any (someP p ((andN (2 ^ rn - 1) N : Nat) : Int)) lp ln lc tp tn tc q3 n3 d3 _ HSM.out (by omega) (by omega) (by omega)).mono ?_
              rintro e v6 ⟨lqq, lcc, tqq, tcc, rqq, rcc, rfl, hpx, hcx, hb⟩
              have HPX := hid hpx
              clear hpx hcx
              replace HNX := hid (HNX.out.below hb)
              replace HSM := hid (HSM.out.below hb)
              refine hK.out _ _ (⟨hS.1.step hb, hS.2.trans (hb.mono hS.2.size)⟩) (fun hS => ?_)
              clear hK K
              try simp only [List.setIfInBounds_toArray, List.set_cons_zero, List.set_cons_succ]
              refine wpAnyH_ready (rs := [7]) (by kernel_rfl) (by simp) ?_
              refine AllReadyH.cons (o := _) rfl (fun K hK => ?_) AllReadyH.nil
              go_simp
              refine (net_any (someP p ((andN (2 ^ rn - 1) N : Nat) : Int)) lqq ln lcc tqq tn tcc rqq n3 rcc _ HPX.out).mono ?_
              rintro e v7 ⟨rfl, hb⟩
              obtain ⟨R, hR⟩ : ∃ R, netP (someP p ((andN (2 ^ rn - 1) N : Nat) : Int)) = R := ⟨_, rfl⟩
              rw [hR, HER2.out]
              clear hR
              replace HNX := hid (HNX.out.below hb)
              replace HPX := hid (HPX.out.below hb)
              refine hK.out _ _ (⟨hS.1.step hb, hS.2.trans (hb.mono hS.2.size)⟩) (fun hS => ?_)
              clear hK K
              try simp only [List.setIfInBounds_toArray, List.set_cons_zero, List.set_cons_succ]
              refine tkH (i := 8) (v := ?_) (fun V hV => ?_) ?_
              rotate_left
              · go_simp
                try with_reducible rfl
              try simp only [Act.put, List.getElem_toArray, List.getElem_cons_zero, List.getElem_cons_succ, List.setIfInBounds_toArray, List.set_cons_zero, List.set_cons_succ]
              refine tkH (i := 9) (v := ?_) (fun V hV => ?_) ?_
              rotate_left
              · go_simp
                try with_reducible rfl
              try simp only [Act.put, List.getElem_toArray, List.getElem_cons_zero, List.getElem_cons_succ, List.setIfInBounds_toArray, List.set_cons_zero, List.set_cons_succ]
              refine tkH (i := 10) (v := ?_) (fun V hV => ?_) ?_
              rotate_left
              · go_simp
                try with_reducible rfl
              try simp only [Act.put, List.getElem_toArray, List.getElem_cons_zero, List.getElem_cons_succ, List.setIfInBounds_toArray, List.set_cons_zero, List.set_cons_succ]
              refine wpAnyH_ready (rs := [12]) (by kernel_rfl) (by simp) ?_
              refine AllReadyH.cons (o := _) rfl (fun K hK => ?_) AllReadyH.nil
              have k0 := (HNX.out.2 0 (.int .i64 0) rfl).1; have f0 := (HNX.out.2 0 (.int .i64 0) rfl).2
              have k1 := (HNX.out.2 1 (.int .i64 0) rfl).1; have f1 := (HNX.out.2 1 (.int .i64 0) rfl).2
              have HP : Hid (BoxIs wd.heap.size #[.int .i64 R.lo, .int .i64 R.hi] ((v7.setCell ⟨wd.heap.size, 0, none⟩ (.int .i64 R.lo)).setCell ⟨wd.heap.size, 1, none⟩ (.int .i64 R.hi))) := hid ((HNX.out.put (j := 0) (.int .i64 R.lo)).put (j := 1) (.int .i64 R.hi))
              have HNQ := hid (((Near.refl (fun i => i = wd.heap.size) v7).setCell (p := ⟨wd.heap.size, 0, none⟩) (fun _ => rfl) (.int .i64 R.lo)).setCell (p := ⟨wd.heap.size, 1, none⟩) (fun _ => rfl) (.int .i64 R.hi))
              have HSW := hid (hS.1.step' ((((Below.refl wd.heap.size v7).setCell (p := ⟨wd.heap.size, 0, none⟩) HLHNX.out (.int .i64 R.lo)).setCell (p := ⟨wd.heap.size, 1, none⟩) HLHNX.out (.int .i64 R.hi)).mono HD.out.size))
              have HSB := hid (hS.2.trans (((Below.refl wd.heap.size v7).setCell (p := ⟨wd.heap.size, 0, none⟩) HLHNX.out (.int .i64 R.lo)).setCell (p := ⟨wd.heap.size, 1, none⟩) HLHNX.out (.int .i64 R.hi)))
              clear hS
              go_simp
              clear k0 f0 k1 f1
              generalize ((v7.setCell ⟨wd.heap.size, 0, none⟩ (.int .i64 R.lo)).setCell ⟨wd.heap.size, 1, none⟩ (.int .i64 R.hi)) = v12 at HP HSW HSB HNQ   ⊢
              replace HNX := HP
              clear HNQ
              refine hK.out _ _ (⟨HSW.out, HSB.out⟩) (fun hS => ?_)
              clear hK K
              try simp only [List.setIfInBounds_toArray, List.set_cons_zero, List.set_cons_succ]
              refine tkH (i := 13) (v := ?_) (fun V hV => ?_) ?_
              rotate_left
              · go_simp
                try with_reducible rfl
              try simp only [Act.put, List.getElem_toArray, List.getElem_cons_zero, List.getElem_cons_succ, List.setIfInBounds_toArray, List.set_cons_zero, List.set_cons_succ]
              refine wpAnyH_done (by kernel_rfl) ?_ _
              go_wp2
              go_meet
              case rel => exact ⟨_, rfl, rfl, hS.1, HWD.out.trans (hS.2.mono HWD.out.size)⟩
            case rest =>
              obtain ⟨bn15, rfl, rfl, hbx, hbw⟩ := hcut
              have H7 := hid hbx; replace HXI := hid (HXI.out.below hbw)
              clear hbx hbw
              generalize wc = w7 at H7 HXI ⊢
              go_wp2_with fail
              refine (bits_any (N : Int) w7 (by omega) (by have := HN12.out; omega)).mono ?_
              rintro e w8 ⟨v, rfl, hown, hb⟩
              have H8 := hid (H7.out.step hb)
              replace HXI := hid (HXI.out.below hb)
              obtain ⟨q8, d8, rfl, hi8⟩ := hown.slice
              obtain ⟨m8, hm8⟩ : ∃ m, (bitsL (N : Int)).length = m := ⟨_, rfl⟩
              have HM8 : Hid (m8 ≤ 1000000) := hid (by rw [← hm8]; have := bitsTo_len (N : Int) 12; show (bitsTo _ 12).length ≤ _; omega)
              rw [hm8] at hi8 ⊢
              have HI8 := hid hi8
              clear hb hown hi8 hm8
              go_wp2_with fail
              (with_reducible refine (shorter_any q8 m8 d8 (bitsL (N : Int)) q k9 d X _ HI8.out HXI.out HM8.out (by omega)).mono ?_)
              rintro e w9 ⟨rfl, nn, rfl⟩
              rw [HSH.out]
              have HQ9 := hid (H8.out.drewN nn)
              go_wp2_with fail
              (with_reducible refine (awake_any _).mono ?_)
              rintro e w99 ⟨rfl, hb⟩
              go_wp2_with fail
              go_ret
              exact ⟨rfl, HQ9.out.below.trans (hb.mono HQ9.out.below.size)⟩
end Go.Proofs.Ytaioobhblfnlaaa
