/- TreatyNoCheaper: no set with a smaller sum of Prices suffices; the cheapest set with a greater Reserve does not cost more; Kept of a set that suffices is at most Reserve. For each programme, byte and word. -/
import Derived.Test.YtaioobhblfnlaaaD6
namespace Go.Proofs.Ytaioobhblfnlaaa
open Go.RowKit


theorem chN_none {p : Prg} (h : faultP p = 0) (hc : cheapP p = none) : chE p = 10 := by rw [chE, if_pos h, hc]; rfl
theorem chN_some {p : Prg} {X : List Int} (h : faultP p = 0) (hc : cheapP p = some X) : chE p = 0 ∧ prO p.ts (chO p) = priceL p.ts X ∧ chV p = X := by
  have h2 : chO p = some X := by rw [chO, if_pos h, hc]
  exact ⟨by rw [chE, if_pos h, hc]; rfl, by rw [h2]; rfl, by rw [chV, h2]; rfl⟩
theorem kpN_not {p : Prg} {l : List Int} (h : faultP p = 0) (hs : setB p.ts l = false) : keptE p l = 2 := by rw [keptE, if_pos h, hs]; rfl
def resP (p : Prg) (r : Int) : Prg := { p with reserve := r }
theorem OkP.res {p : Prg} (ok : OkP p) {r : Int} (h0 : 0 ≤ r) (h1 : r ≤ 10000) : OkP (resP p r) := ⟨ok.n4, ok.m5, ok.k5, h0, h1, ok.loss, ok.tre, ok.rep, ok.many⟩
theorem price_small {p : Prg} (ok : OkP p) {X : List Int} (hX : IncrG p.ts.length 0 X) : 0 ≤ priceL p.ts X ∧ priceL p.ts X ≤ 9999 := by
  have hlen : X.length ≤ 5 := by
    have h5 := ok.m5
    by_cases h0 : X = []
    · rw [h0]; simp
    · have := incr_room p.ts.length X 0 hX h0; omega
  have hb : ∀ (l : List Int), 0 ≤ priceL p.ts l ∧ priceL p.ts l ≤ 1000 * l.length := by
    intro l
    induction l with
    | nil => simp [priceL]
    | cons a r ih =>
      have hp : 0 ≤ prI p.ts a ∧ prI p.ts a ≤ 1000 := by
        unfold prI
        cases h : p.ts[a.toNat]? with
        | none => simp
        | some t => exact ok.prices t (List.mem_of_getElem? h)
      rw [priceL, List.length_cons]
      push_cast
      omega
  have := hb X
  omega
theorem prove_bits {p : Prg} (ok : OkP p) {X : List Int} (hX : IncrG p.ts.length 0 X) : proveB p X 9999 = (setB p.ts X && sufB p X) := by
  rw [proveB, decide_eq_true (fault_iff.2 ok), Bool.true_and, decide_eq_true (price_small ok hX).2, Bool.true_and]; rfl
/-- What the cheapest set says of the others. -/
theorem cheap_no {p : Prg} (h : cheapP p = none) (X : List Int) : (setB p.ts X && sufB p X) = false := by
  have hb := cheap_best p
  rw [h] at hb
  cases hs : setB p.ts X && sufB p X
  · rfl
  · rw [Bool.and_eq_true] at hs; exact absurd hs (hb X)
theorem cheap_yes {p : Prg} (ok : OkP p) {Y : List Int} (h : cheapP p = some Y) : proveB p Y (priceL p.ts Y) = true ∧ proveB p Y (priceL p.ts Y - 1) = false ∧ IncrG p.ts.length 0 Y ∧
    (∀ X, (setB p.ts X && sufB p X) = true → priceL p.ts Y ≤ priceL p.ts X) ∧ ∀ r, p.reserve ≤ r → ∃ Z, cheapP (resP p r) = some Z ∧ priceL p.ts Z ≤ priceL p.ts Y := by
  have hb := cheap_best p
  rw [h] at hb
  obtain ⟨⟨h1, h2⟩, h3⟩ := hb
  have h4 : decide ((keptX p Y).hi ≤ p.reserve) = true := h2
  have hle : ∀ X, SetOk p X → priceL p.ts Y ≤ priceL p.ts X := fun X hX => by
    rcases h3 X hX with rfl | hbt
    · exact Int.le_refl _
    · rcases hbt with hbt | hbt
      · omega
      · rw [hbt.1]; exact Int.le_refl _
  refine ⟨?_, ?_, (setB_iff.1 h1).1, fun X hX => hle X (by rw [Bool.and_eq_true] at hX; exact hX), fun r hr => ?_⟩
  · rw [proveB, decide_eq_true (fault_iff.2 ok), h1, h4, decide_eq_true (Int.le_refl _)]; rfl
  · rw [proveB, h1, decide_eq_false (show ¬ priceL p.ts Y ≤ priceL p.ts Y - 1 by omega)]; simp
  · have hb2 := cheap_best (resP p r)
    have hs : SetOk (resP p r) Y := ⟨h1, by show decide ((keptX p Y).hi ≤ r) = true; rw [decide_eq_true_eq] at h4 ⊢; omega⟩
    cases hz : cheapP (resP p r) with
    | none => rw [hz] at hb2; exact absurd hs (hb2 Y)
    | some Z =>
      refine ⟨Z, rfl, ?_⟩
      rw [hz] at hb2
      rcases hb2.2 Y hs with rfl | hbt
      · exact Int.le_refl _
      · rcases hbt with hbt | hbt
        · exact Int.le_of_lt hbt
        · exact Int.le_of_eq hbt.1
theorem kp_ok {p : Prg} (ok : OkP p) {l : List Int} (hs : setB p.ts l = true) : keptE p l = 0 ∧ keptV p l = keptX p l := by
  have h2 : keptE p l = 0 := by rw [keptE, if_pos (fault_iff.2 ok), hs]; rfl
  exact ⟨h2, by rw [keptV, if_pos h2]⟩

set_option maxRecDepth 40000 in
set_option maxHeartbeats 16000000 in
theorem treatyNoCheaper_any (p : Prg) (lp : Option Addr) (ln lc : Nat) (tp : Option Addr) (tn tc : Nat) (rp : Option Addr) (rn rc : Nat) (bv yv : Int) (w : World) (hp : PrgAt w p lp ln tp tn rp rn) (hbv : 0 ≤ bv ∧ bv ≤ 255) (hyv : 0 ≤ yv ∧ yv ≤ 65535) : Calls Try.prog 16 #[.agg #[.slice lp ln lc, .int .i64 p.reserve, .slice tp tn tc, .slice rp rn rc], .int .u8 bv, .int .u16 yv] w fun e w' => e = .returned (.bool true) ∧ Below w.heap.size w w' := by
  obtain ⟨B, rfl⟩ : ∃ B : Nat, bv = (B : Int) := ⟨bv.toNat, by omega⟩
  have hB : B ≤ 255 := by omega
  obtain ⟨Y, rfl⟩ : ∃ Y : Nat, yv = (Y : Int) := ⟨yv.toNat, by omega⟩
  have hY : Y ≤ 65535 := by omega
  have HP := hid hp
  have HTH := hid (fun W (hW : Below w.heap.size w W) => thin_any p lp ln lc tp tn tc rp rn rc W (hp.below hW))
  have HFL := hid (fun W (hW : Below w.heap.size w W) => faultL_any p lp ln lc tp tn tc rp rn rc W (hp.below hW))
  have HRD := hid (fun W (hW : Below w.heap.size w W) => ready_any p lp ln lc tp tn tc rp rn rc W (hp.below hW))
  clear hp hbv hyv
  have H0 : Hid (Boxed1 w #[.slice lp ln lc, .int .i64 p.reserve, .slice tp tn tc, .slice rp rn rc] 26 (w.alloc (.cells #[.slice lp ln lc, .int .i64 p.reserve, .slice tp tn tc, .slice rp rn rc] 26))) := hid (Boxed1.start _ _ _)
  go_enter Try.func16, Try.ntmps16
  have e0 := H0.out.cell 0 (v := .slice lp ln lc) rfl; have e1 := H0.out.cell 1 (v := .int .i64 p.reserve) rfl; have e2 := H0.out.cell 2 (v := .slice tp tn tc) rfl; have e3 := H0.out.cell 3 (v := .slice rp rn rc) rfl
  go_wp2_with fail
  (with_reducible refine (HRD.out _ ?_).mono ?_)
  · exact H0.out.below
  rintro e w1 ⟨rfl, hb⟩
  have H1 := hid (H0.out.step hb)
  clear e0 e1 e2 e3 hb 
  cases hrd : readyB p
  · clear hrd
    go_wp2_with fail
    (with_reducible refine (awake_any _).mono ?_)
    rintro e w99 ⟨rfl, hb⟩
    go_wp2_with fail
    go_ret
    exact ⟨rfl, H1.out.below.trans (hb.mono H1.out.below.size)⟩
  · have HOK := hid (ready_iff.1 hrd).1; have HMY := hid (ready_iff.1 hrd).2
    have hln : ln ≤ 4 := by have := HP.out.l.1; have := HOK.out.n4; omega
    have htn : tn ≤ 5 := by have := HP.out.t.1; have := HOK.out.m5; omega
    have hrn : rn ≤ 5 := by have := HP.out.r.1; have := HOK.out.k5; omega
    have HF0 := hid (fault_iff.2 HOK.out)
    clear hrd
    have e0 := H1.out.cell 0 (v := .slice lp ln lc) rfl; have e1 := H1.out.cell 1 (v := .int .i64 p.reserve) rfl; have e2 := H1.out.cell 2 (v := .slice tp tn tc) rfl; have e3 := H1.out.cell 3 (v := .slice rp rn rc) rfl
    go_wp2_with fail
    (with_reducible refine (prog_any p lp ln lc tp tn tc rp rn rc w1 (HP.out.below H1.out.below) (by omega) (by omega) (by omega)).mono ?_)
    rintro e w2 ⟨lq1, lc1, tq1, tc1, rq1, rc1, rfl, hpx, hcx, hb⟩
    have H2 := hid (H1.out.step hb)
    have HP1 := hid hpx; have HC1 := hid hcx
    clear e0 e1 e2 e3 hb hpx hcx
    go_wp2_with fail
    refine (cheapest_any p lq1 ln lc1 tq1 tn tc1 rq1 rn rc1 w2 HP1.out).mono ?_
    rintro e w3 ⟨q, k, d, rfl, hi, hb⟩
    have H3 := hid (H2.out.step hb)
    replace HP1 := hid (HP1.out.below hb)
    have HI := hid hi
    clear hb hi
    obtain ⟨pv, hpv⟩ : ∃ v, prO p.ts (chO p) = v := ⟨_, rfl⟩
    obtain ⟨ev, hev⟩ : ∃ v, chE p = v := ⟨_, rfl⟩
    rw [hpv, hev]
    have HPV := hid hpv; have HEV := hid hev
    clear hpv hev
    have hM2 : 2 ^ tn ≤ 32 := Nat.pow_le_pow_right (n := 2) (by decide) (show tn ≤ 5 by omega)
    have hM1 := Nat.two_pow_pos tn
    have HEN : Hid (everyN tn = ((2 ^ tn - 1 : Nat) : Int)) := hid rfl
    obtain ⟨S, hS⟩ : ∃ S, B &&& (2 ^ tn - 1) = S := ⟨_, rfl⟩
    have hSl : S < 2 ^ tn := by rw [← hS]; exact Nat.lt_of_le_of_lt Nat.and_le_right (by omega)
    have hS32 : S < 32 := by omega
    have hand : bits .and .i64 (B : Int) (everyN tn) = (S : Int) := by rw [HEN.out, i64_and_nat B (2 ^ tn - 1) (by omega) (by omega), hS]
    have hcv : IntKind.i64.wrap (B : Int) = (B : Int) := IntWalk.i64_in _ (by omega)
    have hinc : IncrG p.ts.length 0 (bitsL (S : Int)) := bitsL_incr (by rw [← HP.out.t.1]; exact hSl) (by have := HOK.out.m5; omega)
    have HPX : Hid (priceG (bitB (S : Int)) 0 p.ts = priceL p.ts (bitsL (S : Int))) := hid (price_bits (by have := HOK.out.m5; omega) (by rw [← HP.out.t.1]; exact hSl))
    have HIN := hid hinc
    clear hS hSl hM1 hM2 HEN hinc
    have e0 := H3.out.cell 0 (v := .slice lp ln lc) rfl; have e1 := H3.out.cell 1 (v := .int .i64 p.reserve) rfl; have e2 := H3.out.cell 2 (v := .slice tp tn tc) rfl; have e3 := H3.out.cell 3 (v := .slice rp rn rc) rfl
    go_wp2_with fail
    refine (every_any p lp ln lc tp tn tc rp rn rc w3 (by omega)).mono ?_
    rintro e w4 ⟨rfl, hb⟩
    have H4 := hid (H3.out.step hb)
    replace HI := hid (HI.out.below hb)
    clear e0 e1 e2 e3 hb 
    go_wp2_with fail
    refine (bits_any (S : Int) w4 (by omega) (by omega)).mono ?_
    rintro e w5 ⟨v, rfl, hown, hb⟩
    have H5 := hid (H4.out.step hb)
    replace HI := hid (HI.out.below hb)
    obtain ⟨q2, d2, rfl, hi2⟩ := hown.slice
    obtain ⟨X, hX⟩ : ∃ X, bitsL (S : Int) = X := ⟨_, rfl⟩
    rw [hX] at hi2 HPX HIN ⊢
    obtain ⟨m2, hm2⟩ : ∃ m, X.length = m := ⟨_, rfl⟩
    have hm9 : m2 ≤ 12 := by rw [← hm2, ← hX]; exact bitsTo_len _ 12
    rw [hm2] at hi2 ⊢
    have HI2 := hid hi2
    clear hb hi2 hown hm2 hX
    have e0 := H5.out.cell 0 (v := .slice lp ln lc) rfl; have e1 := H5.out.cell 1 (v := .int .i64 p.reserve) rfl; have e2 := H5.out.cell 2 (v := .slice tp tn tc) rfl; have e3 := H5.out.cell 3 (v := .slice rp rn rc) rfl
    go_wp2_with fail
    (with_reducible refine (prog_any p lp ln lc tp tn tc rp rn rc w5 (HP.out.below H5.out.below) (by omega) (by omega) (by omega)).mono ?_)
    rintro e w6 ⟨lq2, lc2, tq2, tc2, rq2, rc2, rfl, hpx, hcx, hb⟩
    have H6 := hid (H5.out.step hb)
    replace HI := hid (HI.out.below hb)
    replace HI2 := hid (HI2.out.below hb)
    have HP2 := hid hpx; have HC2 := hid hcx
    clear e0 e1 e2 e3 hb hpx hcx
    go_wp2_with fail
    refine (list_any q2 m2 d2 X w6 HI2.out (by omega)).mono ?_
    rintro e w7 ⟨v, rfl, hown, hb⟩
    have H7 := hid (H6.out.step hb)
    replace HI := hid (HI.out.below hb)
    replace HI2 := hid (HI2.out.below hb)
    replace HP2 := hid (HP2.out.below hb)
    obtain ⟨q3, d3, rfl, hi1⟩ := hown.slice
    rw [← HI2.out.1] at hi1 ⊢
    have HL3 := hid hi1
    clear hb hown hi1
    go_wp2_with fail
    refine (prove_any p lq2 ln lc2 tq2 tn tc2 rq2 rn rc2 q3 m2 d3 X 9999 w7 HP2.out HL3.out (by omega)).mono ?_
    rintro e w8 ⟨rfl, hb⟩
    have H8 := hid (H7.out.step hb)
    replace HI := hid (HI.out.below hb)
    replace HI2 := hid (HI2.out.below hb)
    replace HP2 := hid (HP2.out.below hb)
    replace HL3 := hid (HL3.out.below hb)
    rw [prove_bits HOK.out HIN.out]
    clear hb 
    have e0 := H8.out.cell 0 (v := .slice lp ln lc) rfl; have e1 := H8.out.cell 1 (v := .int .i64 p.reserve) rfl; have e2 := H8.out.cell 2 (v := .slice tp tn tc) rfl; have e3 := H8.out.cell 3 (v := .slice rp rn rc) rfl
    go_wp2_with fail
    (with_reducible refine (prog_any p lp ln lc tp tn tc rp rn rc w8 (HP.out.below H8.out.below) (by omega) (by omega) (by omega)).mono ?_)
    rintro e w9 ⟨lq3, lc3, tq3, tc3, rq3, rc3, rfl, hpx, hcx, hb⟩
    have H9 := hid (H8.out.step hb)
    replace HI := hid (HI.out.below hb)
    replace HI2 := hid (HI2.out.below hb)
    have HP3 := hid hpx; have HC3 := hid hcx
    clear e0 e1 e2 e3 hb hpx hcx
    go_wp2_with fail
    refine (list_any q2 m2 d2 X w9 HI2.out (by omega)).mono ?_
    rintro e w10 ⟨v, rfl, hown, hb⟩
    have H10 := hid (H9.out.step hb)
    replace HI := hid (HI.out.below hb)
    replace HI2 := hid (HI2.out.below hb)
    replace HP3 := hid (HP3.out.below hb)
    obtain ⟨q4, d4, rfl, hi1⟩ := hown.slice
    rw [← HI2.out.1] at hi1 ⊢
    have HL4 := hid hi1
    clear hb hown hi1
    go_wp2_with fail
    refine (kept_any p lq3 ln lc3 tq3 tn tc3 rq3 rn rc3 q4 m2 d4 X w10 HP3.out HL4.out (by omega)).mono ?_
    rintro e w11 ⟨rfl, hb⟩
    have H11 := hid (H10.out.step hb)
    replace HI := hid (HI.out.below hb)
    replace HI2 := hid (HI2.out.below hb)
    replace HP3 := hid (HP3.out.below hb)
    replace HL4 := hid (HL4.out.below hb)
    clear hb 
    obtain ⟨R, hR⟩ : ∃ R, keptV p X = R := ⟨_, rfl⟩
    obtain ⟨ke, hke⟩ : ∃ v, keptE p X = v := ⟨_, rfl⟩
    rw [hR, hke]
    have HRR := hid hR; have HKE := hid hke
    clear hR hke
    go_upto_region 7 with fail
    obtain ⟨w12, hw12⟩ : ∃ V, w11.alloc (.cells #[.int .i64 R.lo, .int .i64 R.hi] 51) = V := ⟨_, rfl⟩
    rw [hw12]
    have hb : Below w11.heap.size w11 w12 := by rw [← hw12]; exact (Below.refl _ _).alloc (Nat.le_refl _) _
    have HX : Hid (BoxIs w11.heap.size #[.int .i64 R.lo, .int .i64 R.hi] w12) := hid (by rw [← hw12]; exact BoxIs.start _ _ _)
    clear hw12
    have H12 := hid (H11.out.step hb)
    replace HI := hid (HI.out.below hb)
    clear hb
    obtain ⟨isv, hisv⟩ : ∃ b, (setB p.ts X && sufB p X) = b := ⟨_, rfl⟩
    rw [hisv]
    have HIS := hid hisv
    clear hisv
    have x1 := (HX.out.2 1 (.int .i64 R.hi) rfl).1
    have e0 := H12.out.cell 0 (v := .slice lp ln lc) rfl; have e1 := H12.out.cell 1 (v := .int .i64 p.reserve) rfl; have e2 := H12.out.cell 2 (v := .slice tp tn tc) rfl; have e3 := H12.out.cell 3 (v := .slice rp rn rc) rfl
    have HCH : Hid ((ev = 10 ∧ isv = false) ∨ ∃ Z, ev = 0 ∧ cheapP p = some Z) := hid (by
      cases hc : cheapP p with
      | none => exact .inl ⟨by rw [← HEV.out, chN_none HF0.out hc], by rw [← HIS.out]; exact cheap_no hc X⟩
      | some Z => exact .inr ⟨Z, by rw [← HEV.out, (chN_some HF0.out hc).1], rfl⟩)
    cases hs : setB p.ts X
    · have hi0 : isv = false := by rw [← HIS.out, hs]; rfl
      have hk2 : ke = 2 := by rw [← HKE.out, kpN_not HF0.out hs]
      subst hi0 hk2
      clear HKE HRR hs
      rcases HCH.out with ⟨hev, hiz⟩ | ⟨Z, hev, hc⟩
      · subst hev
        clear hiz HCH HEV HPV
        go_wp2_with fail
        (with_reducible refine (awake_any _).mono ?_)
        rintro e w99 ⟨rfl, hb⟩
        go_wp2_with fail
        go_ret
        exact ⟨rfl, H12.out.below.trans (hb.mono H12.out.below.size)⟩
      · subst hev
        obtain ⟨hp1, hp2, hzi, hz3, hz4⟩ := cheap_yes HOK.out hc
        have hcs := chN_some HF0.out hc
        have hpz : pv = priceL p.ts Z := by rw [← HPV.out, hcs.2.1]
        rw [hcs.2.2] at HI
        have hk5 : k ≤ 5 := by
          rw [HI.out.1]
          by_cases h0 : Z = []
          · rw [h0]; simp
          · have := incr_room _ Z 0 hzi h0; have := HOK.out.m5; omega
        rw [← hpz] at hp1 hp2 hz3 hz4
        have HP1v := hid hp1; have HP2v := hid hp2
        have HPB := hid (price_small HOK.out HIN.out)
        have hpvb : 0 ≤ pv ∧ pv ≤ 9999 := by rw [hpz]; exact price_small HOK.out hzi
        have HZ4 := hid hz4
        obtain ⟨PX, hPX⟩ : ∃ v, priceL p.ts X = v := ⟨_, rfl⟩
        rw [hPX] at HPX HPB
        clear hp1 hp2 hz3 hz4 hcs hpz hPX hzi HCH HEV HPV hc
        go_upto_region 11 with fail
        clear e0 e1 e2 e3 x1
        refine wp_region_held_drew (S := fun V => Boxed1 w #[.slice lp ln lc, .int .i64 p.reserve, .slice tp tn tc, .slice rp rn rc] 26 V ∧ Below w12.heap.size w12 V) (by kernel_rfl) (⟨H12.out.drew, (Below.refl _ _).drew⟩) (fun hS => ?_)
        simp only [List.size_toArray, List.length_cons, List.length_nil, Nat.reduceAdd, Array.replicate_succ, Array.replicate_zero, List.push_toArray, List.nil_append, List.cons_append]
        refine tkH (i := 0) (v := ?_) (fun V hV => ?_) ?_
        rotate_left
        · have e0 := hV.1.cell 0 (v := .slice lp ln lc) rfl; have e1 := hV.1.cell 1 (v := .int .i64 p.reserve) rfl; have e2 := hV.1.cell 2 (v := .slice tp tn tc) rfl; have e3 := hV.1.cell 3 (v := .slice rp rn rc) rfl; go_simp
          try with_reducible rfl
        try simp only [Act.put, List.getElem_toArray, List.getElem_cons_zero, List.setIfInBounds_toArray, List.set_cons_zero, List.set_cons_succ]
        refine tkH (i := 1) (v := ?_) (fun V hV => ?_) ?_
        rotate_left
        · go_simp
          try with_reducible rfl
        try simp only [Act.put, List.getElem_toArray, List.getElem_cons_zero, List.getElem_cons_succ, List.setIfInBounds_toArray, List.set_cons_zero, List.set_cons_succ]
        refine tkH (i := 2) (v := ?_) (fun V hV => ?_) ?_
        rotate_left
        · go_simp
          try with_reducible rfl
        try simp only [Act.put, List.getElem_toArray, List.getElem_cons_zero, List.getElem_cons_succ, List.setIfInBounds_toArray, List.set_cons_zero, List.set_cons_succ]
        refine tkH (i := 3) (v := ?_) (fun V hV => ?_) ?_
        rotate_left
        · have e0 := hV.1.cell 0 (v := .slice lp ln lc) rfl; have e1 := hV.1.cell 1 (v := .int .i64 p.reserve) rfl; have e2 := hV.1.cell 2 (v := .slice tp tn tc) rfl; have e3 := hV.1.cell 3 (v := .slice rp rn rc) rfl; go_simp
          try with_reducible rfl
        try simp only [Act.put, List.getElem_toArray, List.getElem_cons_zero, List.getElem_cons_succ, List.setIfInBounds_toArray, List.set_cons_zero, List.set_cons_succ]
        refine wpAnyH_ready (rs := [4]) (by kernel_rfl) (by simp) ?_
        refine AllReadyH.cons (o := _) rfl (fun K hK => ?_) AllReadyH.nil
        go_simp
        (with_reducible refine (every_any p lp ln lc tp tn tc rp rn rc _ (by omega)).mono ?_)
        rintro e v4 ⟨rfl, hb⟩
        refine hK.out _ _ (⟨hS.1.step hb, hS.2.trans (hb.mono hS.2.size)⟩) (fun hS => ?_)
        clear hK K
        try simp only [List.setIfInBounds_toArray, List.set_cons_zero, List.set_cons_succ]
        refine tkH (i := 5) (v := ?_) (fun V hV => ?_) ?_
        rotate_left
        · go_simp
          try with_reducible rfl
        try simp only [Act.put, List.getElem_toArray, List.getElem_cons_zero, List.getElem_cons_succ, List.setIfInBounds_toArray, List.set_cons_zero, List.set_cons_succ]
        refine wpAnyH_ready (rs := [6]) (by kernel_rfl) (by simp) ?_
        refine AllReadyH.cons (o := _) rfl (fun K hK => ?_) AllReadyH.nil
        go_simp
        (with_reducible refine (price_any p lp ln lc tp tn tc rp rn rc (S : Int) _ (HP.out.below hS.1.below) (by omega) (by omega) (by omega) HOK.out.prices).mono ?_)
        rintro e v6 ⟨rfl, hb⟩
        rw [HPX.out]
        refine hK.out _ _ (⟨hS.1.step hb, hS.2.trans (hb.mono hS.2.size)⟩) (fun hS => ?_)
        clear hK K
        try simp only [List.setIfInBounds_toArray, List.set_cons_zero, List.set_cons_succ]
        refine tkH (i := 7) (v := ?_) (fun V hV => ?_) ?_
        rotate_left
        · go_simp
          try with_reducible rfl
        try simp only [Act.put, List.getElem_toArray, List.getElem_cons_zero, List.getElem_cons_succ, List.setIfInBounds_toArray, List.set_cons_zero, List.set_cons_succ]
        refine wpAnyH_done (by kernel_rfl) ?_ _
        have H13 := hid hS.1; replace HI := hid (HI.out.below hS.2)
        clear hS hand hcv
        obtain ⟨w13, hw⟩ : ∃ V, V = v6 := ⟨_, rfl⟩
        subst hw
        have e0 := H13.out.cell 0 (v := .slice lp ln lc) rfl; have e1 := H13.out.cell 1 (v := .int .i64 p.reserve) rfl; have e2 := H13.out.cell 2 (v := .slice tp tn tc) rfl; have e3 := H13.out.cell 3 (v := .slice rp rn rc) rfl
        go_upto_region 13 with fail
        obtain ⟨w14, hw14⟩ : ∃ V, w13.alloc (.cells #[.slice lp ln lc, .int .i64 p.reserve, .slice tp tn tc, .slice rp rn rc] 26) = V := ⟨_, rfl⟩
        rw [hw14]
        have hb : Below w13.heap.size w13 w14 := by rw [← hw14]; exact (Below.refl _ _).alloc (Nat.le_refl _) _
        have HXX : Hid (BoxIs w13.heap.size #[.slice lp ln lc, .int .i64 p.reserve, .slice tp tn tc, .slice rp rn rc] w14) := hid (by rw [← hw14]; exact BoxIs.start _ _ _)
        have HZX := hid H13.out.size
        clear hw14
        clear e0 e1 e2 e3 
        have HIQ0 := hid (fun a (ha : q = some a) (h0 : 0 < k) => ints_lt HI.out (k := a.block) ⟨a, ha, h0, rfl⟩)
        have H14 := hid (H13.out.step hb)
        replace HI := hid (HI.out.below hb)
        clear hb
        have HIQ : Hid (∀ a, q = some a → 0 < k → a.block < w13.heap.size) := hid (fun a ha h0 => HIQ0.out a ha h0)
        have hcv2 : IntKind.i64.wrap (Y : Int) = (Y : Int) := IntWalk.i64_in _ (by omega)
        have hr0 := HOK.out.r0; have hr9 := HOK.out.r9
        have e1 := H14.out.cell 1 (v := .int .i64 p.reserve) rfl
        have k1 := (HXX.out.2 1 (.int .i64 p.reserve) rfl).1; have f1 := (HXX.out.2 1 (.int .i64 p.reserve) rfl).2
        go_upto_region 14 with fail
        obtain ⟨rv, hrv⟩ : ∃ v, (if p.reserve + (Y : Int) % 500 < 10000 then p.reserve + (Y : Int) % 500 else 10000) = v := ⟨_, rfl⟩
        rw [hrv]
        have hrb : p.reserve ≤ rv ∧ 0 ≤ rv ∧ rv ≤ 10000 := by rw [← hrv]; split <;> omega
        have HN5 := hid ((Near.refl (fun i => i = w13.heap.size) w14).setCell (p := ⟨w13.heap.size, 1, none⟩) (fun _ => rfl) (.int .i64 rv))
        replace HXX := hid (HXX.out.put (j := 1) (.int .i64 rv))
        generalize (w14.setCell ⟨w13.heap.size, 1, none⟩ (.int .i64 rv)) = w15 at HXX HN5 ⊢
        have H15 := hid (H14.out.step' (HN5.out.below H14.out.size (fun i h1 h2 => by have := HZX.out; omega)))
        replace HI := hid (HI.out.kept (fun a ha h0 hlt => HN5.out.block _ hlt (by have := HIQ.out a ha h0; omega)))
        clear hrv k1 f1 e1 hcv2 HN5
        have HOR := hid (HOK.out.res hrb.2.1 hrb.2.2)
        obtain ⟨Z2, hz2, hz3⟩ := HZ4.out rv hrb.1
        have hcz := chN_some (p := resP p rv) (fault_iff.2 HOR.out) hz2
        have HCZ := hid hcz
        obtain ⟨mv, hmv⟩ : ∃ v, priceL p.ts Z2 = v := ⟨_, rfl⟩
        have HMV := hid hmv
        rw [hmv] at hz3
        clear hcz hmv hz2
        have x0 := (HXX.out.2 0 (.slice lp ln lc) rfl).1; have x1 := (HXX.out.2 1 (.int .i64 rv) rfl).1; have x2 := (HXX.out.2 2 (.slice tp tn tc) rfl).1; have x3 := (HXX.out.2 3 (.slice rp rn rc) rfl).1
        go_wp2_with fail
        refine (prog_any (resP p rv) lp ln lc tp tn tc rp rn rc w15 ⟨HP.out.l.below H15.out.below, HP.out.t.below H15.out.below, HP.out.r.below H15.out.below⟩ (by omega) (by omega) (by omega)).mono ?_
        rintro e w16 ⟨lq5, lc5, tq5, tc5, rq5, rc5, rfl, hpx, hcx, hb⟩
        have H16 := hid (H15.out.step hb)
        replace HI := hid (HI.out.below hb)
        have HP5 := hid hpx
        clear x0 x1 x2 x3
        clear hb hpx hcx
        go_wp2_with fail
        refine (cheapest_any (resP p rv) lq5 ln lc5 tq5 tn tc5 rq5 rn rc5 w16 HP5.out).mono ?_
        rintro e w17 ⟨q5, k5, d5, rfl, hi5, hb⟩
        have H17 := hid (H16.out.step hb)
        replace HI := hid (HI.out.below hb)
        replace HP5 := hid (HP5.out.below hb)
        rw [HCZ.out.1, HCZ.out.2.1, show priceL (resP p rv).ts Z2 = mv from HMV.out]
        clear hb hi5
        have e0 := H17.out.cell 0 (v := .slice lp ln lc) rfl; have e1 := H17.out.cell 1 (v := .int .i64 p.reserve) rfl; have e2 := H17.out.cell 2 (v := .slice tp tn tc) rfl; have e3 := H17.out.cell 3 (v := .slice rp rn rc) rfl
        go_wp2_with fail
        (with_reducible refine (prog_any p lp ln lc tp tn tc rp rn rc w17 (HP.out.below H17.out.below) (by omega) (by omega) (by omega)).mono ?_)
        rintro e w18 ⟨lq6, lc6, tq6, tc6, rq6, rc6, rfl, hpx, hcx, hb⟩
        have H18 := hid (H17.out.step hb)
        replace HI := hid (HI.out.below hb)
        have HP6 := hid hpx; have HC6 := hid hcx
        clear e0 e1 e2 e3 hb hpx hcx
        go_wp2_with fail
        refine (list_any q k d Z w18 HI.out (by omega)).mono ?_
        rintro e w19 ⟨v, rfl, hown, hb⟩
        have H19 := hid (H18.out.step hb)
        replace HI := hid (HI.out.below hb)
        replace HP6 := hid (HP6.out.below hb)
        obtain ⟨q6, d6, rfl, hi1⟩ := hown.slice
        rw [← HI.out.1] at hi1 ⊢
        have HL6 := hid hi1
        clear hb hown hi1
        go_wp2_with fail
        refine (prove_any p lq6 ln lc6 tq6 tn tc6 rq6 rn rc6 q6 k d6 Z pv w19 HP6.out HL6.out (by omega)).mono ?_
        rintro e w20 ⟨rfl, hb⟩
        have H20 := hid (H19.out.step hb)
        replace HI := hid (HI.out.below hb)
        replace HP6 := hid (HP6.out.below hb)
        replace HL6 := hid (HL6.out.below hb)
        rw [HP1v.out]
        clear hb 
        have e0 := H20.out.cell 0 (v := .slice lp ln lc) rfl; have e1 := H20.out.cell 1 (v := .int .i64 p.reserve) rfl; have e2 := H20.out.cell 2 (v := .slice tp tn tc) rfl; have e3 := H20.out.cell 3 (v := .slice rp rn rc) rfl
        go_wp2_with fail
        (with_reducible refine (prog_any p lp ln lc tp tn tc rp rn rc w20 (HP.out.below H20.out.below) (by omega) (by omega) (by omega)).mono ?_)
        rintro e w21 ⟨lq7, lc7, tq7, tc7, rq7, rc7, rfl, hpx, hcx, hb⟩
        have H21 := hid (H20.out.step hb)
        replace HI := hid (HI.out.below hb)
        have HP7 := hid hpx; have HC7 := hid hcx
        clear e0 e1 e2 e3 hb hpx hcx
        go_wp2_with fail
        refine (list_any q k d Z w21 HI.out (by omega)).mono ?_
        rintro e w22 ⟨v, rfl, hown, hb⟩
        have H22 := hid (H21.out.step hb)
        replace HI := hid (HI.out.below hb)
        replace HP7 := hid (HP7.out.below hb)
        obtain ⟨q7, d7, rfl, hi1⟩ := hown.slice
        rw [← HI.out.1] at hi1 ⊢
        have HL7 := hid hi1
        clear hb hown hi1
        go_wp2_with fail
        refine (prove_any p lq7 ln lc7 tq7 tn tc7 rq7 rn rc7 q7 k d7 Z (pv - 1) w22 HP7.out HL7.out (by omega)).mono ?_
        rintro e w23 ⟨rfl, hb⟩
        have H23 := hid (H22.out.step hb)
        replace HI := hid (HI.out.below hb)
        replace HP7 := hid (HP7.out.below hb)
        replace HL7 := hid (HL7.out.below hb)
        rw [HP2v.out]
        clear hb 
        go_wp2_with fail
        (with_reducible refine (awake_any _).mono ?_)
        rintro e w99 ⟨rfl, hb⟩
        go_wp2_with fail
        go_ret
        exact ⟨rfl, H23.out.below.trans (hb.mono H23.out.below.size)⟩
    · have hkk := kp_ok HOK.out hs
      have hk0 : ke = 0 := by rw [← HKE.out, hkk.1]
      subst hk0
      have hrr : keptX p X = R := by rw [← HRR.out, hkk.2]
      by_cases hh : R.hi ≤ p.reserve
      · have hi0 : isv = true := by rw [← HIS.out, hs, Bool.true_and]; show decide ((keptX p X).hi ≤ p.reserve) = true; rw [hrr]; exact decide_eq_true hh
        subst hi0
        clear HKE HRR hs hkk hrr
        rcases HCH.out with ⟨hev, hiz⟩ | ⟨Z, hev, hc⟩
        · cases hiz
        · subst hev
          obtain ⟨hp1, hp2, hzi, hz3, hz4⟩ := cheap_yes HOK.out hc
          have hcs := chN_some HF0.out hc
          have hpz : pv = priceL p.ts Z := by rw [← HPV.out, hcs.2.1]
          rw [hcs.2.2] at HI
          have hk5 : k ≤ 5 := by
            rw [HI.out.1]
            by_cases h0 : Z = []
            · rw [h0]; simp
            · have := incr_room _ Z 0 hzi h0; have := HOK.out.m5; omega
          rw [← hpz] at hp1 hp2 hz3 hz4
          have HP1v := hid hp1; have HP2v := hid hp2
          have HGE : Hid (pv ≤ priceL p.ts X) := hid (hz3 X HIS.out)
          have HPB := hid (price_small HOK.out HIN.out)
          have hpvb : 0 ≤ pv ∧ pv ≤ 9999 := by rw [hpz]; exact price_small HOK.out hzi
          have HZ4 := hid hz4
          obtain ⟨PX, hPX⟩ : ∃ v, priceL p.ts X = v := ⟨_, rfl⟩
          rw [hPX] at HPX HPB HGE
          clear hp1 hp2 hz3 hz4 hcs hpz hPX hzi HCH HEV HPV hc
          go_upto_region 11 with fail
          clear e0 e1 e2 e3 x1
          refine wp_region_held_drew (S := fun V => Boxed1 w #[.slice lp ln lc, .int .i64 p.reserve, .slice tp tn tc, .slice rp rn rc] 26 V ∧ Below w12.heap.size w12 V) (by kernel_rfl) (⟨H12.out.drew, (Below.refl _ _).drew⟩) (fun hS => ?_)
          simp only [List.size_toArray, List.length_cons, List.length_nil, Nat.reduceAdd, Array.replicate_succ, Array.replicate_zero, List.push_toArray, List.nil_append, List.cons_append]
          refine tkH (i := 0) (v := ?_) (fun V hV => ?_) ?_
          rotate_left
          · have e0 := hV.1.cell 0 (v := .slice lp ln lc) rfl; have e1 := hV.1.cell 1 (v := .int .i64 p.reserve) rfl; have e2 := hV.1.cell 2 (v := .slice tp tn tc) rfl; have e3 := hV.1.cell 3 (v := .slice rp rn rc) rfl; go_simp
            try with_reducible rfl
          try simp only [Act.put, List.getElem_toArray, List.getElem_cons_zero, List.setIfInBounds_toArray, List.set_cons_zero, List.set_cons_succ]
          refine tkH (i := 1) (v := ?_) (fun V hV => ?_) ?_
          rotate_left
          · go_simp
            try with_reducible rfl
          try simp only [Act.put, List.getElem_toArray, List.getElem_cons_zero, List.getElem_cons_succ, List.setIfInBounds_toArray, List.set_cons_zero, List.set_cons_succ]
          refine tkH (i := 2) (v := ?_) (fun V hV => ?_) ?_
          rotate_left
          · go_simp
            try with_reducible rfl
          try simp only [Act.put, List.getElem_toArray, List.getElem_cons_zero, List.getElem_cons_succ, List.setIfInBounds_toArray, List.set_cons_zero, List.set_cons_succ]
          refine tkH (i := 3) (v := ?_) (fun V hV => ?_) ?_
          rotate_left
          · have e0 := hV.1.cell 0 (v := .slice lp ln lc) rfl; have e1 := hV.1.cell 1 (v := .int .i64 p.reserve) rfl; have e2 := hV.1.cell 2 (v := .slice tp tn tc) rfl; have e3 := hV.1.cell 3 (v := .slice rp rn rc) rfl; go_simp
            try with_reducible rfl
          try simp only [Act.put, List.getElem_toArray, List.getElem_cons_zero, List.getElem_cons_succ, List.setIfInBounds_toArray, List.set_cons_zero, List.set_cons_succ]
          refine wpAnyH_ready (rs := [4]) (by kernel_rfl) (by simp) ?_
          refine AllReadyH.cons (o := _) rfl (fun K hK => ?_) AllReadyH.nil
          go_simp
          (with_reducible refine (every_any p lp ln lc tp tn tc rp rn rc _ (by omega)).mono ?_)
          rintro e v4 ⟨rfl, hb⟩
          refine hK.out _ _ (⟨hS.1.step hb, hS.2.trans (hb.mono hS.2.size)⟩) (fun hS => ?_)
          clear hK K
          try simp only [List.setIfInBounds_toArray, List.set_cons_zero, List.set_cons_succ]
          refine tkH (i := 5) (v := ?_) (fun V hV => ?_) ?_
          rotate_left
          · go_simp
            try with_reducible rfl
          try simp only [Act.put, List.getElem_toArray, List.getElem_cons_zero, List.getElem_cons_succ, List.setIfInBounds_toArray, List.set_cons_zero, List.set_cons_succ]
          refine wpAnyH_ready (rs := [6]) (by kernel_rfl) (by simp) ?_
          refine AllReadyH.cons (o := _) rfl (fun K hK => ?_) AllReadyH.nil
          go_simp
          (with_reducible refine (price_any p lp ln lc tp tn tc rp rn rc (S : Int) _ (HP.out.below hS.1.below) (by omega) (by omega) (by omega) HOK.out.prices).mono ?_)
          rintro e v6 ⟨rfl, hb⟩
          rw [HPX.out]
          refine hK.out _ _ (⟨hS.1.step hb, hS.2.trans (hb.mono hS.2.size)⟩) (fun hS => ?_)
          clear hK K
          try simp only [List.setIfInBounds_toArray, List.set_cons_zero, List.set_cons_succ]
          refine tkH (i := 7) (v := ?_) (fun V hV => ?_) ?_
          rotate_left
          · go_simp
            try with_reducible rfl
          try simp only [Act.put, List.getElem_toArray, List.getElem_cons_zero, List.getElem_cons_succ, List.setIfInBounds_toArray, List.set_cons_zero, List.set_cons_succ]
          refine wpAnyH_done (by kernel_rfl) ?_ _
          have H13 := hid hS.1; replace HI := hid (HI.out.below hS.2)
          clear hS hand hcv
          obtain ⟨w13, hw⟩ : ∃ V, V = v6 := ⟨_, rfl⟩
          subst hw
          have e0 := H13.out.cell 0 (v := .slice lp ln lc) rfl; have e1 := H13.out.cell 1 (v := .int .i64 p.reserve) rfl; have e2 := H13.out.cell 2 (v := .slice tp tn tc) rfl; have e3 := H13.out.cell 3 (v := .slice rp rn rc) rfl
          go_upto_region 13 with fail
          obtain ⟨w14, hw14⟩ : ∃ V, w13.alloc (.cells #[.slice lp ln lc, .int .i64 p.reserve, .slice tp tn tc, .slice rp rn rc] 26) = V := ⟨_, rfl⟩
          rw [hw14]
          have hb : Below w13.heap.size w13 w14 := by rw [← hw14]; exact (Below.refl _ _).alloc (Nat.le_refl _) _
          have HXX : Hid (BoxIs w13.heap.size #[.slice lp ln lc, .int .i64 p.reserve, .slice tp tn tc, .slice rp rn rc] w14) := hid (by rw [← hw14]; exact BoxIs.start _ _ _)
          have HZX := hid H13.out.size
          clear hw14
          clear e0 e1 e2 e3 
          have HIQ0 := hid (fun a (ha : q = some a) (h0 : 0 < k) => ints_lt HI.out (k := a.block) ⟨a, ha, h0, rfl⟩)
          have H14 := hid (H13.out.step hb)
          replace HI := hid (HI.out.below hb)
          clear hb
          have HIQ : Hid (∀ a, q = some a → 0 < k → a.block < w13.heap.size) := hid (fun a ha h0 => HIQ0.out a ha h0)
          have hcv2 : IntKind.i64.wrap (Y : Int) = (Y : Int) := IntWalk.i64_in _ (by omega)
          have hr0 := HOK.out.r0; have hr9 := HOK.out.r9
          have e1 := H14.out.cell 1 (v := .int .i64 p.reserve) rfl
          have k1 := (HXX.out.2 1 (.int .i64 p.reserve) rfl).1; have f1 := (HXX.out.2 1 (.int .i64 p.reserve) rfl).2
          go_upto_region 14 with fail
          obtain ⟨rv, hrv⟩ : ∃ v, (if p.reserve + (Y : Int) % 500 < 10000 then p.reserve + (Y : Int) % 500 else 10000) = v := ⟨_, rfl⟩
          rw [hrv]
          have hrb : p.reserve ≤ rv ∧ 0 ≤ rv ∧ rv ≤ 10000 := by rw [← hrv]; split <;> omega
          have HN5 := hid ((Near.refl (fun i => i = w13.heap.size) w14).setCell (p := ⟨w13.heap.size, 1, none⟩) (fun _ => rfl) (.int .i64 rv))
          replace HXX := hid (HXX.out.put (j := 1) (.int .i64 rv))
          generalize (w14.setCell ⟨w13.heap.size, 1, none⟩ (.int .i64 rv)) = w15 at HXX HN5 ⊢
          have H15 := hid (H14.out.step' (HN5.out.below H14.out.size (fun i h1 h2 => by have := HZX.out; omega)))
          replace HI := hid (HI.out.kept (fun a ha h0 hlt => HN5.out.block _ hlt (by have := HIQ.out a ha h0; omega)))
          clear hrv k1 f1 e1 hcv2 HN5
          have HOR := hid (HOK.out.res hrb.2.1 hrb.2.2)
          obtain ⟨Z2, hz2, hz3⟩ := HZ4.out rv hrb.1
          have hcz := chN_some (p := resP p rv) (fault_iff.2 HOR.out) hz2
          have HCZ := hid hcz
          obtain ⟨mv, hmv⟩ : ∃ v, priceL p.ts Z2 = v := ⟨_, rfl⟩
          have HMV := hid hmv
          rw [hmv] at hz3
          clear hcz hmv hz2
          have x0 := (HXX.out.2 0 (.slice lp ln lc) rfl).1; have x1 := (HXX.out.2 1 (.int .i64 rv) rfl).1; have x2 := (HXX.out.2 2 (.slice tp tn tc) rfl).1; have x3 := (HXX.out.2 3 (.slice rp rn rc) rfl).1
          go_wp2_with fail
          refine (prog_any (resP p rv) lp ln lc tp tn tc rp rn rc w15 ⟨HP.out.l.below H15.out.below, HP.out.t.below H15.out.below, HP.out.r.below H15.out.below⟩ (by omega) (by omega) (by omega)).mono ?_
          rintro e w16 ⟨lq5, lc5, tq5, tc5, rq5, rc5, rfl, hpx, hcx, hb⟩
          have H16 := hid (H15.out.step hb)
          replace HI := hid (HI.out.below hb)
          have HP5 := hid hpx
          clear x0 x1 x2 x3
          clear hb hpx hcx
          go_wp2_with fail
          refine (cheapest_any (resP p rv) lq5 ln lc5 tq5 tn tc5 rq5 rn rc5 w16 HP5.out).mono ?_
          rintro e w17 ⟨q5, k5, d5, rfl, hi5, hb⟩
          have H17 := hid (H16.out.step hb)
          replace HI := hid (HI.out.below hb)
          replace HP5 := hid (HP5.out.below hb)
          rw [HCZ.out.1, HCZ.out.2.1, show priceL (resP p rv).ts Z2 = mv from HMV.out]
          clear hb hi5
          have e0 := H17.out.cell 0 (v := .slice lp ln lc) rfl; have e1 := H17.out.cell 1 (v := .int .i64 p.reserve) rfl; have e2 := H17.out.cell 2 (v := .slice tp tn tc) rfl; have e3 := H17.out.cell 3 (v := .slice rp rn rc) rfl
          go_wp2_with fail
          (with_reducible refine (prog_any p lp ln lc tp tn tc rp rn rc w17 (HP.out.below H17.out.below) (by omega) (by omega) (by omega)).mono ?_)
          rintro e w18 ⟨lq6, lc6, tq6, tc6, rq6, rc6, rfl, hpx, hcx, hb⟩
          have H18 := hid (H17.out.step hb)
          replace HI := hid (HI.out.below hb)
          have HP6 := hid hpx; have HC6 := hid hcx
          clear e0 e1 e2 e3 hb hpx hcx
          go_wp2_with fail
          refine (list_any q k d Z w18 HI.out (by omega)).mono ?_
          rintro e w19 ⟨v, rfl, hown, hb⟩
          have H19 := hid (H18.out.step hb)
          replace HI := hid (HI.out.below hb)
          replace HP6 := hid (HP6.out.below hb)
          obtain ⟨q6, d6, rfl, hi1⟩ := hown.slice
          rw [← HI.out.1] at hi1 ⊢
          have HL6 := hid hi1
          clear hb hown hi1
          go_wp2_with fail
          refine (prove_any p lq6 ln lc6 tq6 tn tc6 rq6 rn rc6 q6 k d6 Z pv w19 HP6.out HL6.out (by omega)).mono ?_
          rintro e w20 ⟨rfl, hb⟩
          have H20 := hid (H19.out.step hb)
          replace HI := hid (HI.out.below hb)
          replace HP6 := hid (HP6.out.below hb)
          replace HL6 := hid (HL6.out.below hb)
          rw [HP1v.out]
          clear hb 
          have e0 := H20.out.cell 0 (v := .slice lp ln lc) rfl; have e1 := H20.out.cell 1 (v := .int .i64 p.reserve) rfl; have e2 := H20.out.cell 2 (v := .slice tp tn tc) rfl; have e3 := H20.out.cell 3 (v := .slice rp rn rc) rfl
          go_wp2_with fail
          (with_reducible refine (prog_any p lp ln lc tp tn tc rp rn rc w20 (HP.out.below H20.out.below) (by omega) (by omega) (by omega)).mono ?_)
          rintro e w21 ⟨lq7, lc7, tq7, tc7, rq7, rc7, rfl, hpx, hcx, hb⟩
          have H21 := hid (H20.out.step hb)
          replace HI := hid (HI.out.below hb)
          have HP7 := hid hpx; have HC7 := hid hcx
          clear e0 e1 e2 e3 hb hpx hcx
          go_wp2_with fail
          refine (list_any q k d Z w21 HI.out (by omega)).mono ?_
          rintro e w22 ⟨v, rfl, hown, hb⟩
          have H22 := hid (H21.out.step hb)
          replace HI := hid (HI.out.below hb)
          replace HP7 := hid (HP7.out.below hb)
          obtain ⟨q7, d7, rfl, hi1⟩ := hown.slice
          rw [← HI.out.1] at hi1 ⊢
          have HL7 := hid hi1
          clear hb hown hi1
          go_wp2_with fail
          refine (prove_any p lq7 ln lc7 tq7 tn tc7 rq7 rn rc7 q7 k d7 Z (pv - 1) w22 HP7.out HL7.out (by omega)).mono ?_
          rintro e w23 ⟨rfl, hb⟩
          have H23 := hid (H22.out.step hb)
          replace HI := hid (HI.out.below hb)
          replace HP7 := hid (HP7.out.below hb)
          replace HL7 := hid (HL7.out.below hb)
          rw [HP2v.out]
          have hge := HGE.out
          clear hb 
          go_wp2_with fail
          (with_reducible refine (awake_any _).mono ?_)
          rintro e w99 ⟨rfl, hb⟩
          go_wp2_with fail
          go_ret
          exact ⟨rfl, H23.out.below.trans (hb.mono H23.out.below.size)⟩
      · have hi0 : isv = false := by rw [← HIS.out, hs, Bool.true_and]; show decide ((keptX p X).hi ≤ p.reserve) = false; rw [hrr]; exact decide_eq_false hh
        subst hi0
        clear HKE HRR hs hkk hrr
        rcases HCH.out with ⟨hev, hiz⟩ | ⟨Z, hev, hc⟩
        · subst hev
          clear hiz HCH HEV HPV
          go_wp2_with fail
          (with_reducible refine (awake_any _).mono ?_)
          rintro e w99 ⟨rfl, hb⟩
          go_wp2_with fail
          go_ret
          exact ⟨rfl, H12.out.below.trans (hb.mono H12.out.below.size)⟩
        · subst hev
          obtain ⟨hp1, hp2, hzi, hz3, hz4⟩ := cheap_yes HOK.out hc
          have hcs := chN_some HF0.out hc
          have hpz : pv = priceL p.ts Z := by rw [← HPV.out, hcs.2.1]
          rw [hcs.2.2] at HI
          have hk5 : k ≤ 5 := by
            rw [HI.out.1]
            by_cases h0 : Z = []
            · rw [h0]; simp
            · have := incr_room _ Z 0 hzi h0; have := HOK.out.m5; omega
          rw [← hpz] at hp1 hp2 hz3 hz4
          have HP1v := hid hp1; have HP2v := hid hp2
          have HPB := hid (price_small HOK.out HIN.out)
          have hpvb : 0 ≤ pv ∧ pv ≤ 9999 := by rw [hpz]; exact price_small HOK.out hzi
          have HZ4 := hid hz4
          obtain ⟨PX, hPX⟩ : ∃ v, priceL p.ts X = v := ⟨_, rfl⟩
          rw [hPX] at HPX HPB
          clear hp1 hp2 hz3 hz4 hcs hpz hPX hzi HCH HEV HPV hc
          go_upto_region 11 with fail
          clear e0 e1 e2 e3 x1
          refine wp_region_held_drew (S := fun V => Boxed1 w #[.slice lp ln lc, .int .i64 p.reserve, .slice tp tn tc, .slice rp rn rc] 26 V ∧ Below w12.heap.size w12 V) (by kernel_rfl) (⟨H12.out.drew, (Below.refl _ _).drew⟩) (fun hS => ?_)
          simp only [List.size_toArray, List.length_cons, List.length_nil, Nat.reduceAdd, Array.replicate_succ, Array.replicate_zero, List.push_toArray, List.nil_append, List.cons_append]
          refine tkH (i := 0) (v := ?_) (fun V hV => ?_) ?_
          rotate_left
          · have e0 := hV.1.cell 0 (v := .slice lp ln lc) rfl; have e1 := hV.1.cell 1 (v := .int .i64 p.reserve) rfl; have e2 := hV.1.cell 2 (v := .slice tp tn tc) rfl; have e3 := hV.1.cell 3 (v := .slice rp rn rc) rfl; go_simp
            try with_reducible rfl
          try simp only [Act.put, List.getElem_toArray, List.getElem_cons_zero, List.setIfInBounds_toArray, List.set_cons_zero, List.set_cons_succ]
          refine tkH (i := 1) (v := ?_) (fun V hV => ?_) ?_
          rotate_left
          · go_simp
            try with_reducible rfl
          try simp only [Act.put, List.getElem_toArray, List.getElem_cons_zero, List.getElem_cons_succ, List.setIfInBounds_toArray, List.set_cons_zero, List.set_cons_succ]
          refine tkH (i := 2) (v := ?_) (fun V hV => ?_) ?_
          rotate_left
          · go_simp
            try with_reducible rfl
          try simp only [Act.put, List.getElem_toArray, List.getElem_cons_zero, List.getElem_cons_succ, List.setIfInBounds_toArray, List.set_cons_zero, List.set_cons_succ]
          refine tkH (i := 3) (v := ?_) (fun V hV => ?_) ?_
          rotate_left
          · have e0 := hV.1.cell 0 (v := .slice lp ln lc) rfl; have e1 := hV.1.cell 1 (v := .int .i64 p.reserve) rfl; have e2 := hV.1.cell 2 (v := .slice tp tn tc) rfl; have e3 := hV.1.cell 3 (v := .slice rp rn rc) rfl; go_simp
            try with_reducible rfl
          try simp only [Act.put, List.getElem_toArray, List.getElem_cons_zero, List.getElem_cons_succ, List.setIfInBounds_toArray, List.set_cons_zero, List.set_cons_succ]
          refine wpAnyH_ready (rs := [4]) (by kernel_rfl) (by simp) ?_
          refine AllReadyH.cons (o := _) rfl (fun K hK => ?_) AllReadyH.nil
          go_simp
          (with_reducible refine (every_any p lp ln lc tp tn tc rp rn rc _ (by omega)).mono ?_)
          rintro e v4 ⟨rfl, hb⟩
          refine hK.out _ _ (⟨hS.1.step hb, hS.2.trans (hb.mono hS.2.size)⟩) (fun hS => ?_)
          clear hK K
          try simp only [List.setIfInBounds_toArray, List.set_cons_zero, List.set_cons_succ]
          refine tkH (i := 5) (v := ?_) (fun V hV => ?_) ?_
          rotate_left
          · go_simp
            try with_reducible rfl
          try simp only [Act.put, List.getElem_toArray, List.getElem_cons_zero, List.getElem_cons_succ, List.setIfInBounds_toArray, List.set_cons_zero, List.set_cons_succ]
          refine wpAnyH_ready (rs := [6]) (by kernel_rfl) (by simp) ?_
          refine AllReadyH.cons (o := _) rfl (fun K hK => ?_) AllReadyH.nil
          go_simp
          (with_reducible refine (price_any p lp ln lc tp tn tc rp rn rc (S : Int) _ (HP.out.below hS.1.below) (by omega) (by omega) (by omega) HOK.out.prices).mono ?_)
          rintro e v6 ⟨rfl, hb⟩
          rw [HPX.out]
          refine hK.out _ _ (⟨hS.1.step hb, hS.2.trans (hb.mono hS.2.size)⟩) (fun hS => ?_)
          clear hK K
          try simp only [List.setIfInBounds_toArray, List.set_cons_zero, List.set_cons_succ]
          refine tkH (i := 7) (v := ?_) (fun V hV => ?_) ?_
          rotate_left
          · go_simp
            try with_reducible rfl
          try simp only [Act.put, List.getElem_toArray, List.getElem_cons_zero, List.getElem_cons_succ, List.setIfInBounds_toArray, List.set_cons_zero, List.set_cons_succ]
          refine wpAnyH_done (by kernel_rfl) ?_ _
          have H13 := hid hS.1; replace HI := hid (HI.out.below hS.2)
          clear hS hand hcv
          obtain ⟨w13, hw⟩ : ∃ V, V = v6 := ⟨_, rfl⟩
          subst hw
          have e0 := H13.out.cell 0 (v := .slice lp ln lc) rfl; have e1 := H13.out.cell 1 (v := .int .i64 p.reserve) rfl; have e2 := H13.out.cell 2 (v := .slice tp tn tc) rfl; have e3 := H13.out.cell 3 (v := .slice rp rn rc) rfl
          go_upto_region 13 with fail
          obtain ⟨w14, hw14⟩ : ∃ V, w13.alloc (.cells #[.slice lp ln lc, .int .i64 p.reserve, .slice tp tn tc, .slice rp rn rc] 26) = V := ⟨_, rfl⟩
          rw [hw14]
          have hb : Below w13.heap.size w13 w14 := by rw [← hw14]; exact (Below.refl _ _).alloc (Nat.le_refl _) _
          have HXX : Hid (BoxIs w13.heap.size #[.slice lp ln lc, .int .i64 p.reserve, .slice tp tn tc, .slice rp rn rc] w14) := hid (by rw [← hw14]; exact BoxIs.start _ _ _)
          have HZX := hid H13.out.size
          clear hw14
          clear e0 e1 e2 e3 
          have HIQ0 := hid (fun a (ha : q = some a) (h0 : 0 < k) => ints_lt HI.out (k := a.block) ⟨a, ha, h0, rfl⟩)
          have H14 := hid (H13.out.step hb)
          replace HI := hid (HI.out.below hb)
          clear hb
          have HIQ : Hid (∀ a, q = some a → 0 < k → a.block < w13.heap.size) := hid (fun a ha h0 => HIQ0.out a ha h0)
          have hcv2 : IntKind.i64.wrap (Y : Int) = (Y : Int) := IntWalk.i64_in _ (by omega)
          have hr0 := HOK.out.r0; have hr9 := HOK.out.r9
          have e1 := H14.out.cell 1 (v := .int .i64 p.reserve) rfl
          have k1 := (HXX.out.2 1 (.int .i64 p.reserve) rfl).1; have f1 := (HXX.out.2 1 (.int .i64 p.reserve) rfl).2
          go_upto_region 14 with fail
          obtain ⟨rv, hrv⟩ : ∃ v, (if p.reserve + (Y : Int) % 500 < 10000 then p.reserve + (Y : Int) % 500 else 10000) = v := ⟨_, rfl⟩
          rw [hrv]
          have hrb : p.reserve ≤ rv ∧ 0 ≤ rv ∧ rv ≤ 10000 := by rw [← hrv]; split <;> omega
          have HN5 := hid ((Near.refl (fun i => i = w13.heap.size) w14).setCell (p := ⟨w13.heap.size, 1, none⟩) (fun _ => rfl) (.int .i64 rv))
          replace HXX := hid (HXX.out.put (j := 1) (.int .i64 rv))
          generalize (w14.setCell ⟨w13.heap.size, 1, none⟩ (.int .i64 rv)) = w15 at HXX HN5 ⊢
          have H15 := hid (H14.out.step' (HN5.out.below H14.out.size (fun i h1 h2 => by have := HZX.out; omega)))
          replace HI := hid (HI.out.kept (fun a ha h0 hlt => HN5.out.block _ hlt (by have := HIQ.out a ha h0; omega)))
          clear hrv k1 f1 e1 hcv2 HN5
          have HOR := hid (HOK.out.res hrb.2.1 hrb.2.2)
          obtain ⟨Z2, hz2, hz3⟩ := HZ4.out rv hrb.1
          have hcz := chN_some (p := resP p rv) (fault_iff.2 HOR.out) hz2
          have HCZ := hid hcz
          obtain ⟨mv, hmv⟩ : ∃ v, priceL p.ts Z2 = v := ⟨_, rfl⟩
          have HMV := hid hmv
          rw [hmv] at hz3
          clear hcz hmv hz2
          have x0 := (HXX.out.2 0 (.slice lp ln lc) rfl).1; have x1 := (HXX.out.2 1 (.int .i64 rv) rfl).1; have x2 := (HXX.out.2 2 (.slice tp tn tc) rfl).1; have x3 := (HXX.out.2 3 (.slice rp rn rc) rfl).1
          go_wp2_with fail
          refine (prog_any (resP p rv) lp ln lc tp tn tc rp rn rc w15 ⟨HP.out.l.below H15.out.below, HP.out.t.below H15.out.below, HP.out.r.below H15.out.below⟩ (by omega) (by omega) (by omega)).mono ?_
          rintro e w16 ⟨lq5, lc5, tq5, tc5, rq5, rc5, rfl, hpx, hcx, hb⟩
          have H16 := hid (H15.out.step hb)
          replace HI := hid (HI.out.below hb)
          have HP5 := hid hpx
          clear x0 x1 x2 x3
          clear hb hpx hcx
          go_wp2_with fail
          refine (cheapest_any (resP p rv) lq5 ln lc5 tq5 tn tc5 rq5 rn rc5 w16 HP5.out).mono ?_
          rintro e w17 ⟨q5, k5, d5, rfl, hi5, hb⟩
          have H17 := hid (H16.out.step hb)
          replace HI := hid (HI.out.below hb)
          replace HP5 := hid (HP5.out.below hb)
          rw [HCZ.out.1, HCZ.out.2.1, show priceL (resP p rv).ts Z2 = mv from HMV.out]
          clear hb hi5
          have e0 := H17.out.cell 0 (v := .slice lp ln lc) rfl; have e1 := H17.out.cell 1 (v := .int .i64 p.reserve) rfl; have e2 := H17.out.cell 2 (v := .slice tp tn tc) rfl; have e3 := H17.out.cell 3 (v := .slice rp rn rc) rfl
          go_wp2_with fail
          (with_reducible refine (prog_any p lp ln lc tp tn tc rp rn rc w17 (HP.out.below H17.out.below) (by omega) (by omega) (by omega)).mono ?_)
          rintro e w18 ⟨lq6, lc6, tq6, tc6, rq6, rc6, rfl, hpx, hcx, hb⟩
          have H18 := hid (H17.out.step hb)
          replace HI := hid (HI.out.below hb)
          have HP6 := hid hpx; have HC6 := hid hcx
          clear e0 e1 e2 e3 hb hpx hcx
          go_wp2_with fail
          refine (list_any q k d Z w18 HI.out (by omega)).mono ?_
          rintro e w19 ⟨v, rfl, hown, hb⟩
          have H19 := hid (H18.out.step hb)
          replace HI := hid (HI.out.below hb)
          replace HP6 := hid (HP6.out.below hb)
          obtain ⟨q6, d6, rfl, hi1⟩ := hown.slice
          rw [← HI.out.1] at hi1 ⊢
          have HL6 := hid hi1
          clear hb hown hi1
          go_wp2_with fail
          refine (prove_any p lq6 ln lc6 tq6 tn tc6 rq6 rn rc6 q6 k d6 Z pv w19 HP6.out HL6.out (by omega)).mono ?_
          rintro e w20 ⟨rfl, hb⟩
          have H20 := hid (H19.out.step hb)
          replace HI := hid (HI.out.below hb)
          replace HP6 := hid (HP6.out.below hb)
          replace HL6 := hid (HL6.out.below hb)
          rw [HP1v.out]
          clear hb 
          have e0 := H20.out.cell 0 (v := .slice lp ln lc) rfl; have e1 := H20.out.cell 1 (v := .int .i64 p.reserve) rfl; have e2 := H20.out.cell 2 (v := .slice tp tn tc) rfl; have e3 := H20.out.cell 3 (v := .slice rp rn rc) rfl
          go_wp2_with fail
          (with_reducible refine (prog_any p lp ln lc tp tn tc rp rn rc w20 (HP.out.below H20.out.below) (by omega) (by omega) (by omega)).mono ?_)
          rintro e w21 ⟨lq7, lc7, tq7, tc7, rq7, rc7, rfl, hpx, hcx, hb⟩
          have H21 := hid (H20.out.step hb)
          replace HI := hid (HI.out.below hb)
          have HP7 := hid hpx; have HC7 := hid hcx
          clear e0 e1 e2 e3 hb hpx hcx
          go_wp2_with fail
          refine (list_any q k d Z w21 HI.out (by omega)).mono ?_
          rintro e w22 ⟨v, rfl, hown, hb⟩
          have H22 := hid (H21.out.step hb)
          replace HI := hid (HI.out.below hb)
          replace HP7 := hid (HP7.out.below hb)
          obtain ⟨q7, d7, rfl, hi1⟩ := hown.slice
          rw [← HI.out.1] at hi1 ⊢
          have HL7 := hid hi1
          clear hb hown hi1
          go_wp2_with fail
          refine (prove_any p lq7 ln lc7 tq7 tn tc7 rq7 rn rc7 q7 k d7 Z (pv - 1) w22 HP7.out HL7.out (by omega)).mono ?_
          rintro e w23 ⟨rfl, hb⟩
          have H23 := hid (H22.out.step hb)
          replace HI := hid (HI.out.below hb)
          replace HP7 := hid (HP7.out.below hb)
          replace HL7 := hid (HL7.out.below hb)
          rw [HP2v.out]
          clear hb 
          go_wp2_with fail
          (with_reducible refine (awake_any _).mono ?_)
          rintro e w99 ⟨rfl, hb⟩
          go_wp2_with fail
          go_ret
          exact ⟨rfl, H23.out.below.trans (hb.mono H23.out.below.size)⟩
end Go.Proofs.Ytaioobhblfnlaaa
