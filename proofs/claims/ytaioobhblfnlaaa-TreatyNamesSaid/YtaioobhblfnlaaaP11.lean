/- Package treaty: the price of a set, what the society keeps with a set. No condition but a set. -/
import Derived.Test.YtaioobhblfnlaaaP10
import Derived.Test.YtaioobhblfnlaaaPlH
namespace Go.Proofs.Ytaioobhblfnlaaa
open Go.RowKit

def InTs (m : Nat) (l : List Int) : Prop := ∀ a ∈ l, 0 ≤ a ∧ a < (m : Int)
theorem inTs_of {ts : List Tre} {l : List Int} (h : setB ts l = true) : InTs ts.length l := fun a ha => by
  have := incr_mem (setB_iff.1 h).1 a ha
  omega
theorem priceL_bd {ts : List Tre} (h : PriceOk ts) : ∀ l : List Int, 0 ≤ priceL ts l ∧ priceL ts l ≤ 1000 * l.length
  | [] => by simp [priceL]
  | a :: l => by
    have ih := priceL_bd h l
    have hp : 0 ≤ prI ts a ∧ prI ts a ≤ 1000 := by
      unfold prI
      split
      · rename_i t ht; exact h t (List.mem_of_getElem? ht)
      · omega
    rw [priceL, List.length_cons]; push_cast; omega
theorem price_take {ts : List Tre} {l : List Int} {k : Nat} {a : Int} (h : l[k]? = some a) : priceL ts (l.take (k + 1)) = priceL ts (l.take k) + prI ts a := by
  rw [List.take_add_one, h, priceL_app]; simp [priceL]
theorem OkP.prices {p : Prg} (h : OkP p) : PriceOk p.ts := fun t ht => by
  obtain ⟨i, hi⟩ := List.mem_iff_getElem?.1 ht
  have := (treV_iff.1 (h.tre i t hi).1).1
  omega
theorem set_short {ts : List Tre} {l : List Int} (h : setB ts l = true) : l.length ≤ ts.length := by
  by_cases h0 : l = []
  · rw [h0]; simp
  · have := incr_room ts.length l 0 (setB_iff.1 h).1 h0; omega

set_option maxRecDepth 40000 in
set_option maxHeartbeats 4000000 in
theorem price91_any (p : Prg) (lp : Option Addr) (ln lc : Nat) (tp : Option Addr) (tn tc : Nat) (rp : Option Addr) (rn rc : Nat) (q : Option Addr) (m c : Nat) (l : List Int) (w : World) (hp : PrgAt w p lp ln tp tn rp rn) (hl : IntsAt w q m l) (hm : m ≤ 100000) (hin : InTs p.ts.length l) (hpr : PriceOk p.ts) : Calls Try.prog 91 #[.agg #[.slice lp ln lc, .int .i64 p.reserve, .slice tp tn tc, .slice rp rn rc], .slice q m c] w fun e w' => e = .returned (.int .i64 (priceL p.ts l)) ∧ Below w.heap.size w w' := by
  have HT := hid hp.t
  have HTN := hid hp.t.1
  have HL := hid hl
  have HMN := hid hl.1
  have HIN := hid hin
  have HPR := hid hpr
  have H0 : Hid (Boxed1 w #[.slice lp ln lc, .int .i64 p.reserve, .slice tp tn tc, .slice rp rn rc] 37 (w.alloc (.cells #[.slice lp ln lc, .int .i64 p.reserve, .slice tp tn tc, .slice rp rn rc] 37))) := hid (Boxed1.start _ _ _)
  clear hp hl hin hpr
  go_enter Try.func91, Try.ntmps91
  go_wp2_with fail
  go_loopw [4, 9] (fun u i wr => ∃ k : Nat, k ≤ m ∧ i = .int .i64 k ∧ u = .int .i64 (priceL p.ts (l.take k)) ∧ Boxed1 w #[.slice lp ln lc, .int .i64 p.reserve, .slice tp tn tc, .slice rp rn rc] 37 wr) (fun _ i _ => m - (intOf i).toNat)
  case atStart => exact ⟨0, by omega, rfl, rfl, H0.out⟩
  case round =>
    clear H0
    obtain ⟨k, hk, rfl, rfl, h1⟩ := hrel
    have H1 := hid h1
    clear h1
    by_cases hlt : k < m
    · obtain ⟨b2, o2, rfl, hb2, c0⟩ := (HL.out.below H1.out.below).at hlt
      obtain ⟨x, hx⟩ : ∃ x, l[k]? = some x := getS (by have := HMN.out; omega)
      have hx2 : l[k]?.getD 0 = x := by rw [hx]; rfl
      rw [hx2] at c0
      have hxb := HIN.out x (List.mem_of_getElem? hx)
      obtain ⟨j, rfl⟩ : ∃ j : Nat, x = j := ⟨x.toNat, by omega⟩
      have hj : j < tn := by have := HTN.out; omega
      obtain ⟨t, ht, b3, o3, rfl, hb3, d0, d1, d2, d3, d4, d5, d6⟩ := (HT.out.below H1.out.below).tre hj
      have HNX : Hid (priceL p.ts (l.take (k + 1)) = priceL p.ts (l.take k) + t.price) := hid (by rw [price_take hx, prI, Int.toNat_natCast, ht])
      have hbd := priceL_bd HPR.out (l.take k)
      have hbt := HPR.out t (List.mem_of_getElem? ht)
      have hlen : (l.take k).length ≤ 100000 := by rw [List.length_take]; omega
      obtain ⟨S, hS⟩ : ∃ z, priceL p.ts (l.take k) = z := ⟨_, rfl⟩
      rw [hS] at HNX hbd ⊢
      have hw : IntKind.i64.wrap (S + t.price) = S + t.price := IntWalk.i64_in _ (by omega)
      have e2 := H1.out.cell 2 (v := .slice (some ⟨b3, o3, none⟩) tn tc) rfl
      clear hx hx2 hxb ht hS
      go_wp2_with fail
      go_roundw
      case rel => exact ⟨k + 1, by omega, by go_num, by rw [HNX.out], H1.out⟩
      case measure => simp [intOf]; omega
    · have hkm : k = m := by omega
      subst hkm
      have HF : Hid (priceL p.ts (l.take k) = priceL p.ts l) := hid (by rw [List.take_of_length_le (by have := HMN.out; omega)])
      go_wp2_with fail
      go_ret
      exact ⟨ret_int HF.out, H1.out.below⟩
def noReps (p : Prg) : Prg := { p with reps := [] }
theorem PrgAt.noReps {w : World} {p : Prg} {lp : Option Addr} {ln : Nat} {tp : Option Addr} {tn : Nat} {rp : Option Addr} {rn : Nat} (h : PrgAt w p lp ln tp tn rp rn) : PrgAt w (noReps p) lp ln tp tn none 0 := ⟨h.l, h.t, ⟨rfl, fun i c hi => by simp [Ytaioobhblfnlaaa.noReps] at hi⟩⟩
def thK (l : List Int) (k : Nat) : Nat → Bool := thL (l.take k)
theorem thK_zero (l : List Int) : thK l 0 = fun _ => false := by funext i; simp [thK, thL, hasB]
theorem thK_succ {l : List Int} {k j : Nat} (h : l[k]? = some (j : Int)) : updB (thK l k) j true = thK l (k + 1) := by
  funext i
  rw [Bool.eq_iff_iff]
  unfold updB thK
  rw [thL_iff, List.take_add_one, h]
  by_cases e : i = j
  · subst e; simp
  · rw [if_neg e, thL_iff]; simp; omega
theorem thK_all {l : List Int} {k : Nat} (h : l.length ≤ k) : thK l k = thL l := by unfold thK; rw [List.take_of_length_le h]
theorem kept_val {p : Prg} (ok : OkP p) (l : List Int) : bndQ (bndO (fun r : (Nat → Int) × Int => r.2) (truO (noReps p) (thL l) [])) = keptX p l := by
  have h := kept_law ok (thL l)
  unfold noReps
  rw [h]; rfl
theorem work_none {p : Prg} {lp : Option Addr} {ln lc : Nat} {tp : Option Addr} {tn tc : Nat} {th : Nat → Bool} {bm b : Nat} {W : World} (h : BoxIs b (workC p lp ln lc tp tn tc none 0 0 th bm) W) :
    BoxIs b (workC p lp ln lc tp tn tc none 0 0 (fun _ => false) bm) (((((W.setCell ⟨b, 4, none⟩ (.bool false)).setCell ⟨b, 5, none⟩ (.bool false)).setCell ⟨b, 6, none⟩ (.bool false)).setCell ⟨b, 7, none⟩ (.bool false)).setCell ⟨b, 8, none⟩ (.bool false)) :=
  ((((h.put (j := 4) (.bool false)).put (j := 5) (.bool false)).put (j := 6) (.bool false)).put (j := 7) (.bool false)).put (j := 8) (.bool false)
theorem near_none (W : World) (b : Nat) : Near (fun i => i = b) W (((((W.setCell ⟨b, 4, none⟩ (.bool false)).setCell ⟨b, 5, none⟩ (.bool false)).setCell ⟨b, 6, none⟩ (.bool false)).setCell ⟨b, 7, none⟩ (.bool false)).setCell ⟨b, 8, none⟩ (.bool false)) :=
  (((((Near.refl (fun i => i = b) W).setCell (p := ⟨b, 4, none⟩) (fun _ => rfl) (.bool false)).setCell (p := ⟨b, 5, none⟩) (fun _ => rfl) (.bool false)).setCell (p := ⟨b, 6, none⟩) (fun _ => rfl) (.bool false)).setCell (p := ⟨b, 7, none⟩) (fun _ => rfl) (.bool false)).setCell (p := ⟨b, 8, none⟩) (fun _ => rfl) (.bool false)

set_option maxRecDepth 40000 in
set_option maxHeartbeats 8000000 in
theorem kept90_any (p : Prg) (lp : Option Addr) (ln lc : Nat) (tp : Option Addr) (tn tc : Nat) (rp : Option Addr) (rn rc : Nat) (q : Option Addr) (m c : Nat) (l : List Int) (w : World) (hp : PrgAt w p lp ln tp tn rp rn) (hl : IntsAt w q m l) (hm : m ≤ 100000) (hin : InTs p.ts.length l) (ok : OkP p) : Calls Try.prog 90 #[.agg #[.slice lp ln lc, .int .i64 p.reserve, .slice tp tn tc, .slice rp rn rc], .slice q m c] w fun e w' => e = .returned (.agg #[.int .i64 (keptX p l).lo, .int .i64 (keptX p l).hi]) ∧ Below w.heap.size w w' := by
  have HP := hid hp.noReps
  have HTN := hid hp.t.1
  have HL := hid hl
  have HMN := hid hl.1
  have HIN := hid hin
  have HOK := hid ok
  have HOKN : Hid (OkP (noReps p)) := hid ok.noReps
  obtain ⟨w1, hw1⟩ : ∃ V, ((w.alloc (.cells #[.slice lp ln lc, .int .i64 p.reserve, .slice tp tn tc, .slice rp rn rc] 37)).alloc (.cells #[.int .i64 0, .int .i64 0] 51)).setCell ⟨w.heap.size, 3, none⟩ (.slice none 0 0) = V := ⟨_, rfl⟩
  have HB1 : Hid (BoxIs w.heap.size #[.slice lp ln lc, .int .i64 p.reserve, .slice tp tn tc, .slice none 0 0] w1) := hid (by rw [← hw1]; exact ((BoxIs.start w #[.slice lp ln lc, .int .i64 p.reserve, .slice tp tn tc, .slice rp rn rc] 37).below ((Below.refl _ _).alloc (Nat.le_refl _) _)).put (j := 3) (.slice none 0 0))
  have HR1 : Hid (BoxIs (w.heap.size + 1) #[.int .i64 0, .int .i64 0] w1) := hid (by have h := BoxIs.start (w.alloc (.cells #[.slice lp ln lc, .int .i64 p.reserve, .slice tp tn tc, .slice rp rn rc] 37)) #[.int .i64 0, .int .i64 0] 51; rw [World.size_alloc] at h; rw [← hw1]; exact h.other (by omega) _)
  have HN1 : Hid (Below w.heap.size w w1) := hid (by rw [← hw1]; exact (((Below.refl _ _).alloc (Nat.le_refl _) _).alloc (by simp) _).setCell (p := ⟨w.heap.size, 3, none⟩) (Nat.le_refl _) _)
  have HZ1 : Hid (w1.heap.size = w.heap.size + 2) := hid (by rw [← hw1]; simp [World.setCell])
  clear hp hl hin ok
  go_enter Try.func90, Try.ntmps90
  go_upto_region 1 with fail
  have q3 := (((BoxIs.start w #[.slice lp ln lc, .int .i64 p.reserve, .slice tp tn tc, .slice rp rn rc] 37).below ((Below.refl _ _).alloc (Nat.le_refl _) (.cells #[.int .i64 0, .int .i64 0] 51))).2 3 (.slice rp rn rc) rfl).1; have z3 := (((BoxIs.start w #[.slice lp ln lc, .int .i64 p.reserve, .slice tp tn tc, .slice rp rn rc] 37).below ((Below.refl _ _).alloc (Nat.le_refl _) (.cells #[.int .i64 0, .int .i64 0] 51))).2 3 (.slice rp rn rc) rfl).2
  have e0 := (HB1.out.2 0 (.slice lp ln lc) rfl).1; have e1 := (HB1.out.2 1 (.int .i64 p.reserve) rfl).1; have e2 := (HB1.out.2 2 (.slice tp tn tc) rfl).1; have e3 := (HB1.out.2 3 (.slice none 0 0) rfl).1
  go_wp2_with fail
  have HWO : Hid (Calls Try.prog 65 #[.agg #[.slice lp ln lc, .int .i64 p.reserve, .slice tp tn tc, .slice none 0 0]] w1 (WorkPost (noReps p) lp ln lc tp tn tc none 0 0 w1)) := hid (work_any (noReps p) lp ln lc tp tn tc none 0 0 w1)
  (with_reducible refine HWO.out.mono ?_)
  rintro e w2 ⟨rfl, hbx, hmv, hb⟩
  have HPW := hid (HP.out.below HN1.out)
  have HM := hid (notM_of HPW.out (Nat.le_succ w1.heap.size))
  have HBX : Hid (BoxIs (w1.heap.size + 2) (workC (noReps p) lp ln lc tp tn tc none 0 0 allT (w1.heap.size + 1)) w2) := hid hbx
  have HMV := hid hmv
  have HR2 := hid (HR1.out.below hb)
  have HN2 := hid (HN1.out.trans (hb.mono HN1.out.size))
  have HPB := hid (HPW.out.below hb)
  have HS2 := hid hb.size
  clear hbx hmv hb e0 e1 e2 e3 q3 z3 HB1 hw1
  have hbx := HBX.out
  have k0 := (hbx.2 4 (.bool true) rfl).1; have z0 := (hbx.2 4 (.bool true) rfl).2
  have k1 := (hbx.2 5 (.bool true) rfl).1; have z1 := (hbx.2 5 (.bool true) rfl).2
  have k2 := (hbx.2 6 (.bool true) rfl).1; have z2 := (hbx.2 6 (.bool true) rfl).2
  have k3 := (hbx.2 7 (.bool true) rfl).1; have z3 := (hbx.2 7 (.bool true) rfl).2
  have k4 := (hbx.2 8 (.bool true) rfl).1; have z4 := (hbx.2 8 (.bool true) rfl).2
  obtain ⟨w3, hw3⟩ : ∃ V, (((((w2.setCell ⟨w1.heap.size + 2, 4, none⟩ (.bool false)).setCell ⟨w1.heap.size + 2, 5, none⟩ (.bool false)).setCell ⟨w1.heap.size + 2, 6, none⟩ (.bool false)).setCell ⟨w1.heap.size + 2, 7, none⟩ (.bool false)).setCell ⟨w1.heap.size + 2, 8, none⟩ (.bool false)) = V := ⟨_, rfl⟩
  have hn3 : Near (fun i => i = w1.heap.size + 2) w2 w3 := by rw [← hw3]; exact near_none _ _
  have HBX3 : Hid (BoxIs (w1.heap.size + 2) (workC (noReps p) lp ln lc tp tn tc none 0 0 (thK l 0) (w1.heap.size + 1)) w3) := hid (by rw [← hw3, thK_zero]; exact work_none hbx)
  clear hbx
  have hz1 := HZ1.out
  have HR3 := hid (HR2.out.far hn3 (by omega))
  have HN3 : Hid (Below w.heap.size w w3) := hid (HN2.out.trans (hn3.below HN2.out.size (fun i h1 h2 => by omega)))
  have HMV3 := hid (HMV.out.kept (hn3.block _ HMV.out.lt (by omega)))
  have HN23 := hid (hn3.mono (T := fun i => i = w1.heap.size + 2) (fun i _ h => h))
  clear hn3 HR2 HN2 HBX hz1
  go_wp2_with fail
  clear hw3 k0 z0 k1 z1 k2 z2 k3 z3 k4 z4
  go_loopw [19] (fun i wr => ∃ k : Nat, k ≤ m ∧ i = .int .i64 k ∧ BoxIs (w1.heap.size + 2) (workC (noReps p) lp ln lc tp tn tc none 0 0 (thK l k) (w1.heap.size + 1)) wr ∧ Near (fun i => i = w1.heap.size + 2) w3 wr) (fun i _ => m - (intOf i).toNat)
  case atStart => exact ⟨0, by omega, rfl, HBX3.out, Near.refl _ _⟩
  case round =>
    clear HBX3
    obtain ⟨k, hk, rfl, hbx, hnr⟩ := hrel
    have HBX := hid hbx; have HNR := hid hnr
    clear hbx hnr
    have HBW : Hid (Below w.heap.size w wr) := hid (HN3.out.trans (HNR.out.below HN3.out.size (fun i h1 h2 => by have := HZ1.out; omega)))
    by_cases hlt : k < m
    · obtain ⟨b2, o2, rfl, hb2, c0⟩ := (HL.out.below HBW.out).at hlt
      obtain ⟨x, hx⟩ : ∃ x, l[k]? = some x := getS (by have := HMN.out; omega)
      have hx2 : l[k]?.getD 0 = x := by rw [hx]; rfl
      rw [hx2] at c0
      have hxb := HIN.out x (List.mem_of_getElem? hx)
      obtain ⟨j, rfl⟩ : ∃ j : Nat, x = j := ⟨x.toNat, by omega⟩
      have hj : j < 5 := by have := HOK.out.m5; omega
      have hji : (j : Int) < 5 := by omega
      have HTH := hid (thK_succ hx)
      have c1 := (HBX.out.2 (4 + j) _ (workC_th hj)).1; have f1 := (HBX.out.2 (4 + j) _ (workC_th hj)).2
      clear hx hx2 hxb
      go_wp2_with fail
      go_roundw
      case rel => exact ⟨k + 1, by omega, by go_num, by rw [← HTH.out, ← workC_set hj]; exact HBX.out.put (j := 4 + j) (.bool true), HNR.out.setCell (p := ⟨w1.heap.size + 2, 4 + j, none⟩) (fun _ => rfl) _⟩
      case measure => simp [intOf]; omega
    · have hkm : k = m := by omega
      subst hkm
      have HBX9 : Hid (BoxIs (w1.heap.size + 2) (workC (noReps p) lp ln lc tp tn tc none 0 0 (thL l) (w1.heap.size + 1)) wr) := hid (by have h := HBX.out; rw [thK_all (by have := HMN.out; omega)] at h; exact h)
      have HWK : Hid (WkS wr (noReps p) lp ln lc tp tn tc none 0 0 (thL l) (w1.heap.size + 2) (w1.heap.size + 1) 0) := hid ⟨HBX9.out, HP.out.below HBW.out, _, HMV3.out.kept (HNR.out.block _ HMV3.out.lt (by omega)), knows_none _ _⟩
      have HRr := hid (HR3.out.far HNR.out (by have := HZ1.out; omega))
      have HBL := hid HBX9.out.1
      clear HBX HBX9
      go_wp2_with fail
      (with_reducible refine (bounds118_any (fun r => r.2) (noReps p) lp ln lc tp tn tc none 0 0 (thL l) (w1.heap.size + 2) (w1.heap.size + 1) 0 wr HOKN.out HWK.out HM.out (by unfold maxLen; omega) (fun V f kp _ _ => kept118_raw f kp V)).mono ?_)
      rintro e w4 ⟨rfl, _, hn⟩
      rw [kept_val HOK.out]
      have HR4 := hid (HRr.out.far hn (by have := HZ1.out; omega))
      have HB4 : Hid (Below w.heap.size w w4) := hid (HBW.out.trans (hn.below HBW.out.size (fun i h1 h2 => by have := HZ1.out; omega)))
      clear hn HRr HWK
      obtain ⟨L, hL⟩ : ∃ z, (keptX p l).lo = z := ⟨_, rfl⟩
      obtain ⟨H, hH⟩ : ∃ z, (keptX p l).hi = z := ⟨_, rfl⟩
      have HKL := hid hL; have HKH := hid hH
      rw [hL, hH]
      clear hL hH
      generalize (bndO (fun r : (Nat → Int) × Int => r.2) (truO (noReps p) (thL l) [])).isSome = s9
      obtain ⟨w5, hw5⟩ : ∃ V, w4.alloc (.cells #[.int .i64 L, .int .i64 H] 51) = V := ⟨_, rfl⟩
      have hb : Below w4.heap.size w4 w5 := by rw [← hw5]; exact (Below.refl _ _).alloc (Nat.le_refl _) _
      have HT5 : Hid (BoxIs w4.heap.size #[.int .i64 L, .int .i64 H] w5) := hid (by rw [← hw5]; exact BoxIs.start _ _ _)
      have HR5 := hid (HR4.out.below hb)
      have HB5 := hid (HB4.out.trans (hb.mono HB4.out.size))
      clear hb HR4 HB4
      have t0 := (HT5.out.2 0 (.int .i64 L) rfl).1; have t1 := (HT5.out.2 1 (.int .i64 H) rfl).1; have z0 := (HR5.out.2 0 (.int .i64 0) rfl).1; have z1 := (HR5.out.2 1 (.int .i64 0) rfl).1; have z2 := (HR5.out.2 0 (.int .i64 0) rfl).2; have z3 := (HR5.out.2 1 (.int .i64 0) rfl).2
      go_wp2_with fail
      have hq := HR5.out.setRng (r := ⟨0, 0⟩) (q := ⟨L, H⟩)
      have y0 := (hq.2 0 (.int .i64 L) rfl).1; have y1 := (hq.2 1 (.int .i64 H) rfl).1
      refine bodyPost_ret (v := .agg #[.int .i64 L, .int .i64 H]) (by simp [results, Try.f90, go_sem, y0, y1]) rfl ?_
      exact ⟨by rw [HKL.out, HKH.out], (HB5.out.setCell (p := ⟨w.heap.size + 1, 0, none⟩) (by show w.heap.size ≤ w.heap.size + 1; omega) _).setCell (p := ⟨w.heap.size + 1, 1, none⟩) (by show w.heap.size ≤ w.heap.size + 1; omega) _⟩
end Go.Proofs.Ytaioobhblfnlaaa
