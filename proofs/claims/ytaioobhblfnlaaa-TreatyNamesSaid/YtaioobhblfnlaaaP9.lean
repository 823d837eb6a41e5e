/- Package treaty: the error of a question; Net; Bounds. No condition. -/
import Derived.Test.YtaioobhblfnlaaaP8
namespace Go.Proofs.Ytaioobhblfnlaaa
open Go.RowKit

theorem knows_none (ts : List Tre) (th : Nat → Bool) : Knows ts th (fun _ => none) := fun _ _ _ _ h => by cases h
theorem wkS_of {w w' : World} {p : Prg} {lp : Option Addr} {ln lc : Nat} {tp : Option Addr} {tn tc : Nat} {rp : Option Addr} {rn rc : Nat} (hp : PrgAt w p lp ln tp tn rp rn) (hbx : BoxIs (w.heap.size + 2) (workC p lp ln lc tp tn tc rp rn rc allT (w.heap.size + 1)) w') (hm : MapV w' 163 (w.heap.size + 1) 0 (fun _ => none)) (hb : Below w.heap.size w w') :
    WkS w' p lp ln lc tp tn tc rp rn rc allT (w.heap.size + 2) (w.heap.size + 1) 0 := ⟨hbx, hp.below hb, _, hm, knows_none _ _⟩
theorem notM_of {w : World} {p : Prg} {lp : Option Addr} {ln : Nat} {tp : Option Addr} {tn : Nat} {rp : Option Addr} {rn : Nat} (hp : PrgAt w p lp ln tp tn rp rn) {b : Nat} (h : w.heap.size ≤ b) : NotM b lp ln tp tn rp rn :=
  ⟨fun hk => by have := rows_lt hp.l hk; omega, fun hk => by have := rows_lt hp.t hk; omega, fun hk => by have := rows_lt hp.r hk; omega⟩
/-- The error of a question. -/
noncomputable def errP (p : Prg) : Int := if faultP p = 0 then (if possO p allT [] = true then 0 else 11) else faultP p
/-- What the society keeps. -/
noncomputable def netP (p : Prg) : Rng := if faultP p = 0 then bndQ (bndO (fun r : (Nat → Int) × Int => r.2) (truO p allT [])) else ⟨0, 0⟩
theorem some_poss_iff {p : Prg} {th : Nat → Bool} (g : (Nat → Int) × Int → Int) : (bndO g (truO p th [])).isSome = possO p th [] := by
  cases h : possO p th []
  · have : truO p th [] = [] := by
      refine Classical.byContradiction fun hn => ?_
      rw [poss_iff_ne.2 hn] at h; cases h
    rw [this]; rfl
  · obtain ⟨r, hr, _⟩ := bndO_some g (poss_iff_ne.1 h)
    rw [hr]; rfl
theorem ret_rngE {r q : Rng} {x y : Int} (h : r = q) (k : x = y) : Ending.returned (.tuple #[.agg #[.int .i64 r.lo, .int .i64 r.hi], .int .i64 x]) = .returned (.tuple #[.agg #[.int .i64 q.lo, .int .i64 q.hi], .int .i64 y]) := by rw [h, k]
def RngPost (r : Rng) (e0 : Int) (w : World) : Ending → World → Prop := fun e w' => e = .returned (.tuple #[.agg #[.int .i64 r.lo, .int .i64 r.hi], .int .i64 e0]) ∧ Below w.heap.size w w'
theorem errP_bad {p : Prg} (h : faultP p ≠ 0) : errP p = faultP p := by rw [errP, if_neg h]
theorem errP_ok {p : Prg} (h : faultP p = 0) : errP p = if possO p allT [] = true then 0 else 11 := by rw [errP, if_pos h]

set_option maxRecDepth 40000 in
set_option maxHeartbeats 4000000 in
theorem net_any (p : Prg) (lp : Option Addr) (ln lc : Nat) (tp : Option Addr) (tn tc : Nat) (rp : Option Addr) (rn rc : Nat) (w : World) (hp : PrgAt w p lp ln tp tn rp rn) : Calls Try.prog 30 #[.agg #[.slice lp ln lc, .int .i64 p.reserve, .slice tp tn tc, .slice rp rn rc]] w (RngPost (netP p) (errP p) w) := by
  have HC := hid (fun W (hW : Below w.heap.size w W) => check_any p lp ln lc tp tn tc rp rn rc W (hp.below hW))
  have HP := hid hp
  clear hp
  have HB0 : Hid (Boxed2 w #[.slice lp ln lc, .int .i64 p.reserve, .slice tp tn tc, .slice rp rn rc] 37 #[.int .i64 0, .int .i64 0] 51 ((w.alloc (.cells #[.slice lp ln lc, .int .i64 p.reserve, .slice tp tn tc, .slice rp rn rc] 37)).alloc (.cells #[.int .i64 0, .int .i64 0] 51))) := hid (Below.refl _ _)
  have HR0 : Hid (BoxIs (w.heap.size + 1) #[.int .i64 0, .int .i64 0] ((w.alloc (.cells #[.slice lp ln lc, .int .i64 p.reserve, .slice tp tn tc, .slice rp rn rc] 37)).alloc (.cells #[.int .i64 0, .int .i64 0] 51))) := hid (by have h := BoxIs.start (w.alloc (.cells #[.slice lp ln lc, .int .i64 p.reserve, .slice tp tn tc, .slice rp rn rc] 37)) #[.int .i64 0, .int .i64 0] 51; rw [World.size_alloc] at h; exact h)
  go_enter Try.func30, Try.ntmps30
  go_wp2_with fail
  (with_reducible refine (HC.out _ HB0.out.below).mono ?_)
  rintro e w1 ⟨rfl, hb⟩
  have HB1 : Hid (Boxed2 w #[.slice lp ln lc, .int .i64 p.reserve, .slice tp tn tc, .slice rp rn rc] 37 #[.int .i64 0, .int .i64 0] 51 w1) := hid (HB0.out.step (hb.mono (by simp)))
  have HR1 := hid (HR0.out.below hb)
  clear hb HB0 HR0
  by_cases h0 : faultP p = 0
  · have HOK := hid (fault_iff.1 h0)
    have HE := hid (errP_ok h0)
    have HNE : Hid (netP p = bndQ (bndO (fun r : (Nat → Int) × Int => r.2) (truO p allT []))) := hid (by rw [netP, if_pos h0])
    rw [h0]
    clear h0
    have e0 := HB1.out.cell1 0 (v := .slice lp ln lc) rfl; have e1 := HB1.out.cell1 1 (v := .int .i64 p.reserve) rfl; have e2 := HB1.out.cell1 2 (v := .slice tp tn tc) rfl; have e3 := HB1.out.cell1 3 (v := .slice rp rn rc) rfl
    go_wp2_with fail
    (with_reducible refine (work_any p lp ln lc tp tn tc rp rn rc _).mono ?_)
    rintro e w2 ⟨rfl, hbx, hmv, hb⟩
    have HWK := hid (wkS_of (HP.out.below HB1.out.below) hbx hmv hb)
    have HM := hid (notM_of (HP.out.below HB1.out.below) (Nat.le_succ _))
    have HB2 := hid (HB1.out.step (hb.mono HB1.out.size))
    have HR2 := hid (HR1.out.below hb)
    have HS1 := hid HB1.out.size
    have hs12 := hb.size
    clear hbx hmv hb e0 e1 e2 e3
    go_wp2_with fail
    (with_reducible refine (bounds84_any (fun r => r.2) p lp ln lc tp tn tc rp rn rc allT (w1.heap.size + 2) (w1.heap.size + 1) 0 w2 HOK.out HWK.out HM.out (by unfold maxLen; omega) (fun V f kp _ _ => kept84_raw f kp V)).mono ?_)
    rintro e w3 ⟨rfl, _, hn⟩
    have HB3 : Hid (Boxed2 w #[.slice lp ln lc, .int .i64 p.reserve, .slice tp tn tc, .slice rp rn rc] 37 #[.int .i64 0, .int .i64 0] 51 w3) := hid (Below.trans HB2.out (hn.below (B := w.heap.size + 2) (by have := HS1.out; omega) (fun i h1 h2 => by have := HS1.out; omega)))
    have HR3 := hid (HR2.out.far hn (by have := HS1.out; omega))
    have HS3 : Hid (w.heap.size + 2 ≤ w3.heap.size) := hid HB3.out.size
    clear hn HB1 HR1 HB2 HR2 HWK HM
    have HPO := hid (some_poss_iff (p := p) (th := allT) (fun r : (Nat → Int) × Int => r.2))
    obtain ⟨o, ho⟩ : ∃ o, bndO (fun r : (Nat → Int) × Int => r.2) (truO p allT []) = o := ⟨_, rfl⟩
    rw [ho] at HPO HNE ⊢
    clear ho
    obtain ⟨L, hL⟩ : ∃ z, (bndQ o).lo = z := ⟨_, rfl⟩
    obtain ⟨H, hH⟩ : ∃ z, (bndQ o).hi = z := ⟨_, rfl⟩
    rw [hL, hH]
    have HNL : Hid (netP p = ⟨L, H⟩) := hid (by rw [HNE.out, ← hL, ← hH])
    obtain ⟨W4, hW4⟩ : ∃ V, w3.alloc (.cells #[.int .i64 L, .int .i64 H] 51) = V := ⟨_, rfl⟩
    have hb4 : Below w3.heap.size w3 W4 := by rw [← hW4]; exact (Below.refl _ _).alloc (Nat.le_refl _) _
    have HT4 : Hid (BoxIs w3.heap.size #[.int .i64 L, .int .i64 H] W4) := hid (by rw [← hW4]; exact BoxIs.start _ _ _)
    have HB4 := hid (HB3.out.step (hb4.mono HS3.out))
    have HR4 := hid (HR3.out.below hb4)
    clear hb4
    have z0 := (HR4.out.2 0 (.int .i64 0) rfl).1; have z1 := (HR4.out.2 1 (.int .i64 0) rfl).1; have z2 := (HR4.out.2 0 (.int .i64 0) rfl).2; have z3 := (HR4.out.2 1 (.int .i64 0) rfl).2
    have t0 := (HT4.out.2 0 (.int .i64 L) rfl).1; have t1 := (HT4.out.2 1 (.int .i64 H) rfl).1
    cases o with
    | none =>
      have HER : Hid (errP p = 11) := hid (by rw [HE.out, ← HPO.out]; rfl)
      have HN0 : Hid (netP p = ⟨0, 0⟩) := hid (by rw [HNE.out]; rfl)
      clear hL hH
      go_wp2_with fail
      have hq := HR4.out.setRng (r := ⟨0, 0⟩) (q := ⟨0, 0⟩)
      have y0 := (hq.2 0 (.int .i64 0) rfl).1; have y1 := (hq.2 1 (.int .i64 0) rfl).1
      refine bodyPost_ret (v := .tuple #[.agg #[.int .i64 0, .int .i64 0], .int .i64 (11)]) (by simp [results, Try.f30, go_sem, y0, y1]) rfl ?_
      exact ⟨ret_rngE (r := ⟨0, 0⟩) HN0.out.symm HER.out.symm, (HB4.out.below.setCell (p := ⟨w.heap.size + 1, 0, none⟩) (by show w.heap.size ≤ w.heap.size + 1; omega) _).setCell (p := ⟨w.heap.size + 1, 1, none⟩) (by show w.heap.size ≤ w.heap.size + 1; omega) _⟩
    | some q =>
      have HER : Hid (errP p = 0) := hid (by rw [HE.out, ← HPO.out]; rfl)
      clear hL hH
      go_wp2_with fail
      have hq := HR4.out.setRng (r := ⟨0, 0⟩) (q := ⟨L, H⟩)
      have y0 := (hq.2 0 (.int .i64 L) rfl).1; have y1 := (hq.2 1 (.int .i64 H) rfl).1
      refine bodyPost_ret (v := .tuple #[.agg #[.int .i64 L, .int .i64 H], .int .i64 (0)]) (by simp [results, Try.f30, go_sem, y0, y1]) rfl ?_
      exact ⟨ret_rngE (r := ⟨L, H⟩) HNL.out.symm HER.out.symm, (HB4.out.below.setCell (p := ⟨w.heap.size + 1, 0, none⟩) (by show w.heap.size ≤ w.heap.size + 1; omega) _).setCell (p := ⟨w.heap.size + 1, 1, none⟩) (by show w.heap.size ≤ w.heap.size + 1; omega) _⟩
  · have hE : (faultP p != 0) = true := by simpa using h0
    have HER := hid (errP_bad h0)
    have HNE : Hid (netP p = ⟨0, 0⟩) := hid (by rw [netP, if_neg h0])
    clear h0
    have z0 := (HR1.out.2 0 (.int .i64 0) rfl).1; have z1 := (HR1.out.2 1 (.int .i64 0) rfl).1; have z2 := (HR1.out.2 0 (.int .i64 0) rfl).2; have z3 := (HR1.out.2 1 (.int .i64 0) rfl).2
    go_wp2_with fail
    have hq := HR1.out.setRng (r := ⟨0, 0⟩) (q := ⟨0, 0⟩)
    have y0 := (hq.2 0 (.int .i64 0) rfl).1; have y1 := (hq.2 1 (.int .i64 0) rfl).1
    refine bodyPost_ret (v := .tuple #[.agg #[.int .i64 0, .int .i64 0], .int .i64 (faultP p)]) (by simp [results, Try.f30, go_sem, y0, y1]) rfl ?_
    exact ⟨ret_rngE (r := ⟨0, 0⟩) HNE.out.symm HER.out.symm, (HB1.out.below.setCell (p := ⟨w.heap.size + 1, 0, none⟩) (by show w.heap.size ≤ w.heap.size + 1; omega) _).setCell (p := ⟨w.heap.size + 1, 1, none⟩) (by show w.heap.size ≤ w.heap.size + 1; omega) _⟩
/-- Bounds, as cells. -/
def cellsB (a : Rng × Rng) : List Value := [.int .i64 a.1.lo, .int .i64 a.1.hi, .int .i64 a.2.lo, .int .i64 a.2.hi]
theorem cellsB_len (t : Rng × Rng) : (cellsB t).length = 4 := rfl
theorem cellsB_one (t : Rng × Rng) : ∀ u ∈ cellsB t, u.oneCell' = true := by
  intro u hu
  simp only [cellsB, List.mem_cons, List.not_mem_nil, or_false] at hu
  rcases hu with rfl | rfl | rfl | rfl <;> rfl
theorem Try.info62 : (Try.prog.info? 62).map (fun i => (i.zero, i.size, i.bytes)) = some (some (.agg #[.int .i64 0, .int .i64 0, .int .i64 0, .int .i64 0]), 4, 32) := by kernel_rfl
theorem Try.und47 : Try.prog.underlying 47 = some (.slice 62) := by kernel_rfl
theorem bnd_lit {w : World} (a : Rng × Rng) (T : TypeId) : RowsAt cellsB 4 (w.alloc (.cells #[.int .i64 a.1.lo, .int .i64 a.1.hi, .int .i64 a.2.lo, .int .i64 a.2.hi] T)) (some ⟨w.heap.size, 0, none⟩) 1 [a] := by
  refine ⟨rfl, fun i c hi => ⟨w.heap.size, 0, rfl, by simp, fun j v hj => ?_⟩⟩
  have hi0 : i = 0 := by have := (List.getElem?_eq_some_iff.1 hi).1; simp at this; omega
  subst hi0
  cases hi
  rw [show 0 + 0 * 4 + j = j by omega]
  exact cell_box w _ T j v (by simpa [cellsB] using hj)
def bndPays (p : Prg) (i : Nat) : Rng := bndQ (bndO (fun r : (Nat → Int) × Int => r.1 i) (truO p allT []))
def bndKeeps (p : Prg) (i : Nat) : Rng := bndQ (bndO (fun r : (Nat → Int) × Int => keepsF p.ts r.1 i) (truO p allT []))
def bndsTo (p : Prg) (k : Nat) : List (Rng × Rng) := (List.range k).map fun i => (bndPays p i, bndKeeps p i)
theorem bndsTo_succ (p : Prg) (k : Nat) : bndsTo p (k + 1) = bndsTo p k ++ [(bndPays p k, bndKeeps p k)] := by unfold bndsTo; rw [List.range_succ]; simp
theorem bndsTo_len (p : Prg) (k : Nat) : (bndsTo p k).length = k := by simp [bndsTo]
noncomputable def bndsP (p : Prg) : List (Rng × Rng) := if errP p = 0 then bndsTo p p.ts.length else []
theorem bndsP_nil {p : Prg} (h : errP p ≠ 0) : bndsP p = [] := by rw [bndsP, if_neg h]
theorem ret_2i {v : Value} {x y : Int} (h : x = y) : Ending.returned (.tuple #[v, .int .i64 x]) = .returned (.tuple #[v, .int .i64 y]) := by rw [h]
def BndsPost (p : Prg) (w : World) : Ending → World → Prop := fun e w' => ∃ v, e = .returned (.tuple #[v, .int .i64 (errP p)]) ∧ OwnRows cellsB 4 62 w' w.heap.size v (bndsP p) ∧ Below w.heap.size w w'

set_option maxRecDepth 100000 in
set_option maxHeartbeats 8000000 in
theorem bounds_any (p : Prg) (lp : Option Addr) (ln lc : Nat) (tp : Option Addr) (tn tc : Nat) (rp : Option Addr) (rn rc : Nat) (w : World) (hp : PrgAt w p lp ln tp tn rp rn) : Calls Try.prog 29 #[.agg #[.slice lp ln lc, .int .i64 p.reserve, .slice tp tn tc, .slice rp rn rc]] w (BndsPost p w) := by
  have HC := hid (fun W (hW : Below w.heap.size w W) => check_any p lp ln lc tp tn tc rp rn rc W (hp.below hW))
  have HP := hid hp
  have HTN := hid hp.t.1
  clear hp
  have H0 : Hid (Boxed1 w #[.slice lp ln lc, .int .i64 p.reserve, .slice tp tn tc, .slice rp rn rc] 37 (w.alloc (.cells #[.slice lp ln lc, .int .i64 p.reserve, .slice tp tn tc, .slice rp rn rc] 37))) := hid (Boxed1.start _ _ _)
  go_enter Try.func29, Try.ntmps29
  go_wp2_with fail
  (with_reducible refine (HC.out _ H0.out.below).mono ?_)
  rintro e w1 ⟨rfl, hb⟩
  have H1 := hid (H0.out.step (hb.mono (by simp)))
  clear hb H0
  by_cases h0 : faultP p = 0
  · have HOK := hid (fault_iff.1 h0)
    have HE := hid (errP_ok h0)
    rw [h0]
    clear h0
    have e0 := H1.out.cell 0 (v := .slice lp ln lc) rfl; have e1 := H1.out.cell 1 (v := .int .i64 p.reserve) rfl; have e2 := H1.out.cell 2 (v := .slice tp tn tc) rfl; have e3 := H1.out.cell 3 (v := .slice rp rn rc) rfl
    go_wp2_with fail
    (with_reducible refine (work_any p lp ln lc tp tn tc rp rn rc _).mono ?_)
    rintro e w2 ⟨rfl, hbx, hmv, hb⟩
    have HW2 := hid (wkS_of (HP.out.below H1.out.below) hbx hmv hb)
    have HM := hid (notM_of (HP.out.below H1.out.below) (Nat.le_succ _))
    have H2 := hid (H1.out.step hb)
    have HS1 := hid H1.out.size
    have HS12 := hid HW2.out.box.1
    have HNO : Hid (¬ InS none 0 (w1.heap.size + 1)) := hid (by rintro ⟨a, h, _⟩; cases h)
    clear hbx hmv hb e0 e1 e2 e3
    obtain ⟨w3, hw3⟩ : ∃ V, w2.alloc (.cells #[.pointer (some ⟨(w1.heap.size + 2), 0, none⟩)] 119) = V := ⟨_, rfl⟩
    have hb3 : Below w2.heap.size w2 w3 := by rw [← hw3]; exact (Below.refl _ _).alloc (Nat.le_refl _) _
    have HX3 : Hid (BoxIs w2.heap.size #[.pointer (some ⟨(w1.heap.size + 2), 0, none⟩)] w3) := hid (by rw [← hw3]; exact BoxIs.start _ _ _)
    have H3 := hid (H2.out.step hb3)
    have HW3 := hid (HW2.out.below HM.out hb3)
    have HS23 := hid hb3.size
    clear hb3 H2 HW2
    have x0 := (HX3.out.2 0 (.pointer (some ⟨(w1.heap.size + 2), 0, none⟩)) rfl).1
    go_wp2_with fail
    clear x0 hw3
    (with_reducible refine (possible_any p lp ln lc tp tn tc rp rn rc allT (w1.heap.size + 2) (w1.heap.size + 1) 0 none 0 0 [] w3 HOK.out HW3.out HM.out (ints_nil _) HNO.out (by unfold maxLen; omega) (by omega)).mono ?_)
    rintro e w4 ⟨rfl, hwk, hn⟩
    have HW4 := hid hwk
    have HX4 := hid (HX3.out.far hn (by have := HS12.out; intro e; omega))
    have H4 : Hid (Boxed1 w #[.slice lp ln lc, .int .i64 p.reserve, .slice tp tn tc, .slice rp rn rc] 37 w4) := hid (H3.out.step' (hn.below (by have := HS1.out; have := HS12.out; have := HS23.out; omega) (fun i h1 h2 => by have := HS1.out; omega)))
    clear hwk hn HX3 HW3
    cases hps : possO p allT []
    · have HER : Hid (errP p = 11) := hid (by rw [HE.out, hps]; rfl)
      clear hps
      go_wp2_with fail
      go_ret2
      exact ⟨_, ret_2i HER.out.symm, by rw [bndsP_nil (by rw [HER.out]; decide)]; exact ownRows_nil _ _ _ _ _, H4.out.below⟩
    · have HER : Hid (errP p = 0) := hid (by rw [HE.out, hps]; rfl)
      clear hps
      have HBP : Hid (bndsP p = bndsTo p tn) := hid (by rw [bndsP, if_pos HER.out, HTN.out])
      have e2 := H4.out.cell 2 (v := .slice tp tn tc) rfl
      have hw4 : w.heap.size + 1 ≤ w4.heap.size := H4.out.size
      have HX24 := hid HX4.out.1
      have HRD := hid (fun i (hi : RdW (w1.heap.size + 2) (w1.heap.size + 1) lp ln tp tn rp rn i) => HW4.out.rd hi)
      have HT5 : Hid (tn ≤ 5) := hid (by rw [HTN.out]; exact HOK.out.m5)
      have HWL : Hid (w1.heap.size + 2 < w4.heap.size) := hid HW4.out.box.1
      go_wp2_with fail
      clear e2
      go_loopw [6, 25] (fun o i wr => ∃ k : Nat, k ≤ tn ∧ i = .int .i64 k ∧ OwnRows cellsB 4 62 wr w4.heap.size o (bndsTo p k) ∧ WkS wr p lp ln lc tp tn tc rp rn rc allT (w1.heap.size + 2) (w1.heap.size + 1) (6000 + 12000 * k) ∧ BoxIs w2.heap.size #[.pointer (some ⟨(w1.heap.size + 2), 0, none⟩)] wr ∧ Boxed1 w #[.slice lp ln lc, .int .i64 p.reserve, .slice tp tn tc, .slice rp rn rc] 37 wr ∧ w4.heap.size ≤ wr.heap.size) (fun _ i _ => tn - (intOf i).toNat)
      case atStart => exact ⟨0, by omega, rfl, ownRows_nil _ _ _ _ _, HW4.out, HX4.out, H4.out, Nat.le_refl _⟩
      case round =>
      clear HW4 HX4 H4
      obtain ⟨k, hk, rfl, ho, hwk, hx, h5, hs⟩ := hrel
      obtain ⟨q5, d5, rfl, _⟩ := OwnRows.slice cellsB_len ho
      have HO := hid ho; have HWK := hid hwk; have HX := hid hx; have H5 := hid h5; have HS := hid hs; have HBL := hid (bndsTo_len p k)
      have HSW := hid HS.out
      clear ho hwk hx h5 hs
      by_cases hlt : k < tn
      · have hk5 : k < 5 := by have := HT5.out; omega
        obtain ⟨wa, hwa⟩ : ∃ V, wr.alloc (.cells #[.int .i64 (k : Int)] 3) = V := ⟨_, rfl⟩
        have hb : Below wr.heap.size wr wa := by rw [← hwa]; exact (Below.refl _ _).alloc (Nat.le_refl _) _
        have HI : Hid (BoxIs wr.heap.size #[.int .i64 (k : Int)] wa) := hid (by rw [← hwa]; exact BoxIs.start _ _ _)
        replace HO := hid (HO.out.below hb)
        replace HWK := hid (HWK.out.below HM.out hb)
        replace HX := hid (HX.out.below hb)
        replace H5 := hid (H5.out.step hb)
        replace HS := hid (Nat.le_trans HS.out hb.size)
        clear hb
        have x0 := (HX.out.2 0 (.pointer (some ⟨(w1.heap.size + 2), 0, none⟩)) rfl).1
        skip
        go_wp2_with fail
        clear x0 hwa
        have HOF : Hid (∀ (V : World) (f : Nat → Int) (kp : Int), Near (fun i => i = (w1.heap.size + 1)) wa V → (∀ i, 0 ≤ f i ∧ f i ≤ 100000) → Calls Try.prog 81 #[.agg #[.int .i64 (f 0), .int .i64 (f 1), .int .i64 (f 2), .int .i64 (f 3), .int .i64 (f 4), .int .i64 kp], .pointer (some ⟨wr.heap.size, 0, none⟩)] V fun e V' => e = .returned (.int .i64 (f k)) ∧ Below V.heap.size V V') := hid (fun V f kp hn _ => pays81_raw f kp k wr.heap.size V hk5 ((hn.cell (p := ⟨wr.heap.size, 0, none⟩) HI.out.1 (by show ¬ wr.heap.size = _; have := HSW.out; have := HWL.out; omega)).trans (HI.out.2 0 _ rfl).1))
        (with_reducible refine (bounds81_any (fun r => r.1 k) wr.heap.size p lp ln lc tp tn tc rp rn rc allT (w1.heap.size + 2) (w1.heap.size + 1) (6000 + 12000 * k) wa HOK.out HWK.out HM.out (by unfold maxLen; have := HT5.out; omega) HOF.out).mono ?_)
        rintro e wb ⟨rfl, hwk, hn⟩
        replace HO := hid (HO.out.block (fun g hg => hn.block g (HO.out.lt g hg).2 (by have := (HO.out.lt g hg).1; have := HWL.out; omega)))
        replace HX := hid (HX.out.far hn (by have := HS12.out; intro e; omega))
        replace H5 := hid (H5.out.step' (hn.below (by have := HS.out; have := hw4; omega) (fun i h1 h2 => by have := HS1.out; omega)))
        replace HS := hid (Nat.le_trans HS.out hn.size)
        replace HI := hid (HI.out.far hn (by have := HSW.out; have := HWL.out; omega))
        replace HWK := hid hwk
        clear hn hwk
        obtain ⟨L1, hL1⟩ : ∃ z, (bndQ (bndO (fun r : (Nat → Int) × Int => r.1 k) (truO p allT []))).lo = z := ⟨_, rfl⟩
        obtain ⟨H1, hH1⟩ : ∃ z, (bndQ (bndO (fun r : (Nat → Int) × Int => r.1 k) (truO p allT []))).hi = z := ⟨_, rfl⟩
        have HR1 : Hid (bndPays p k = ⟨L1, H1⟩) := hid (by rw [← hL1, ← hH1]; rfl)
        rw [hL1, hH1]
        clear hL1 hH1
        generalize (bndO (fun r : (Nat → Int) × Int => r.1 k) (truO p allT [])).isSome = s1
        obtain ⟨wc, hwc⟩ : ∃ V, wb.alloc (.cells #[.int .i64 L1, .int .i64 H1] 51) = V := ⟨_, rfl⟩
        have hb : Below wb.heap.size wb wc := by rw [← hwc]; exact (Below.refl _ _).alloc (Nat.le_refl _) _
        have HT : Hid (BoxIs wb.heap.size #[.int .i64 L1, .int .i64 H1] wc) := hid (by rw [← hwc]; exact BoxIs.start _ _ _)
        have HSB := hid HS.out
        replace HO := hid (HO.out.below hb)
        replace HWK := hid (HWK.out.below HM.out hb)
        replace HX := hid (HX.out.below hb)
        replace H5 := hid (H5.out.step hb)
        replace HS := hid (Nat.le_trans HS.out hb.size)
        replace HI := hid (HI.out.below hb)
        clear hb
        have x0 := (HX.out.2 0 (.pointer (some ⟨(w1.heap.size + 2), 0, none⟩)) rfl).1
        go_wp2_with fail
        clear x0 hwc
        replace HOF : Hid (∀ (V : World) (f : Nat → Int) (kp : Int), Near (fun i => i = (w1.heap.size + 1)) wc V → (∀ i, 0 ≤ f i ∧ f i ≤ 100000) → Calls Try.prog 82 #[.agg #[.int .i64 (f 0), .int .i64 (f 1), .int .i64 (f 2), .int .i64 (f 3), .int .i64 (f 4), .int .i64 kp], .pointer (some ⟨w2.heap.size, 0, none⟩), .pointer (some ⟨wr.heap.size, 0, none⟩)] V fun e V' => e = .returned (.int .i64 (keepsF p.ts f k)) ∧ Below V.heap.size V V') := hid (fun V f kp hn hf => keeps82_raw p.ts f kp k (w1.heap.size + 2) w2.heap.size wr.heap.size tp tn tc V hk5 HT5.out hf ((hn.cell (p := ⟨w2.heap.size, 0, none⟩) HX.out.1 (by show ¬ w2.heap.size = _; have := HS12.out; omega)).trans (HX.out.2 0 _ rfl).1) ((hn.cell (p := ⟨wr.heap.size, 0, none⟩) HI.out.1 (by show ¬ wr.heap.size = _; have := HSW.out; have := HWL.out; omega)).trans (HI.out.2 0 _ rfl).1) ((hn.cell (p := ⟨(w1.heap.size + 2), 2, none⟩) HWK.out.box.1 (by show ¬ (w1.heap.size + 2) = _; omega)).trans (HWK.out.box.2 2 _ rfl).1) (HWK.out.pa.t.kept hn.size (fun a ha h0 hlt => hn.block _ hlt (fun e => HM.out.t ⟨a, ha, h0, e.symm⟩))))
        (with_reducible refine (bounds82_any (fun r => keepsF p.ts r.1 k) w2.heap.size wr.heap.size p lp ln lc tp tn tc rp rn rc allT (w1.heap.size + 2) (w1.heap.size + 1) (6000 + 12000 * k + 6000) wc HOK.out HWK.out HM.out (by unfold maxLen; have := HT5.out; omega) HOF.out).mono ?_)
        rintro e wd ⟨rfl, hwk, hn⟩
        replace HO := hid (HO.out.block (fun g hg => hn.block g (HO.out.lt g hg).2 (by have := (HO.out.lt g hg).1; have := HWL.out; omega)))
        replace HX := hid (HX.out.far hn (by have := HS12.out; intro e; omega))
        replace H5 := hid (H5.out.step' (hn.below (by have := HS.out; have := hw4; omega) (fun i h1 h2 => by have := HS1.out; omega)))
        replace HS := hid (Nat.le_trans HS.out hn.size)
        replace HT := hid (HT.out.far hn (by have := HSB.out; have := HWL.out; omega))
        replace HWK := hid (hwk.more (show 6000 + 12000 * k + 6000 + 6000 ≤ 6000 + 12000 * (k + 1) by omega))
        clear hn hwk HI
        obtain ⟨L2, hL2⟩ : ∃ z, (bndQ (bndO (fun r : (Nat → Int) × Int => keepsF p.ts r.1 k) (truO p allT []))).lo = z := ⟨_, rfl⟩
        obtain ⟨H2, hH2⟩ : ∃ z, (bndQ (bndO (fun r : (Nat → Int) × Int => keepsF p.ts r.1 k) (truO p allT []))).hi = z := ⟨_, rfl⟩
        have HR2 : Hid (bndKeeps p k = ⟨L2, H2⟩) := hid (by rw [← hL2, ← hH2]; rfl)
        rw [hL2, hH2]
        clear hL2 hH2
        generalize (bndO (fun r : (Nat → Int) × Int => keepsF p.ts r.1 k) (truO p allT [])).isSome = s2
        obtain ⟨we, hwe⟩ : ∃ V, wd.alloc (.cells #[.int .i64 L2, .int .i64 H2] 51) = V := ⟨_, rfl⟩
        have hb : Below wd.heap.size wd we := by rw [← hwe]; exact (Below.refl _ _).alloc (Nat.le_refl _) _
        have HU : Hid (BoxIs wd.heap.size #[.int .i64 L2, .int .i64 H2] we) := hid (by rw [← hwe]; exact BoxIs.start _ _ _)
        replace HO := hid (HO.out.below hb)
        replace HWK := hid (HWK.out.below HM.out hb)
        replace HX := hid (HX.out.below hb)
        replace H5 := hid (H5.out.step hb)
        replace HS := hid (Nat.le_trans HS.out hb.size)
        replace HT := hid (HT.out.below hb)
        clear hb
        have t0 := (HT.out.2 0 (.int .i64 L1) rfl).1; have t1 := (HT.out.2 1 (.int .i64 H1) rfl).1; have u0 := (HU.out.2 0 (.int .i64 L2) rfl).1; have u1 := (HU.out.2 1 (.int .i64 H2) rfl).1
        have ho3 := HO.out.below ((Below.refl we.heap.size we).alloc (Nat.le_refl _) (.cells #[.int .i64 L1, .int .i64 H1, .int .i64 L2, .int .i64 H2] 62))
        have hle : (bndsTo p k).length ≤ 1000000 := by rw [HBL.out]; have := HT5.out; omega
        have hse := HS.out
        skip
        go_wp2_with (at_builtin; refine append_rows cellsB_len (by decide) cellsB_one 47 62 _ 32 (by decide) Try.info62 rfl Try.und47 (by rfl) _ _ (by rfl) w4.heap.size _ _ _ 1 1 [((⟨L1, H1⟩, ⟨L2, H2⟩) : Rng × Rng)] ho3 (by rfl) (by rfl) (bnd_lit ((⟨L1, H1⟩, ⟨L2, H2⟩) : Rng × Rng) 62) hle (by omega) (by rw [World.size_alloc]; omega) ?_; intro v' w' h1 h2 h3)
        clear t0 t1 u0 u1 hwe
        have hb : Below w4.heap.size we w' := ((Below.refl _ _).alloc hse _).trans h2
        go_roundw
        case rel => exact ⟨k + 1, by omega, by go_num, by rw [bndsTo_succ, HR1.out, HR2.out]; exact h1, HWK.out.near HM.out (Near.of_below (S := fun i => w4.heap.size ≤ i) hb (fun _ _ h => h)) (fun i hi hi2 => by have := HRD.out i hi; omega), HX.out.keep hb HX24.out, H5.out.step' (hb.mono hw4), Nat.le_trans hse hb.size⟩
        case measure => simp [intOf]; omega
      · have hkm : k = tn := by omega
        subst hkm
        go_wp2_with fail
        go_ret2
        exact ⟨_, ret_2i HER.out.symm, by rw [HBP.out]; exact HO.out.mono (by omega), H5.out.below⟩
  · have hE : (faultP p != 0) = true := by simpa using h0
    have HER := hid (errP_bad h0)
    have HF := hid h0
    clear h0
    go_wp2_with fail
    go_ret2
    exact ⟨_, ret_2i HER.out.symm, by rw [bndsP_nil (by rw [HER.out]; exact HF.out)]; exact ownRows_nil _ _ _ _ _, H1.out.below⟩
end Go.Proofs.Ytaioobhblfnlaaa
