/- The program: Leave and seen -/
import Derived.Test.YtlicijnaacdceaaProZ
/- Leave of the program. -/
namespace Go.Proofs.Ytlicijnaacdceaa
open Go.RowKit

/-- All numbers from s on and below b. -/
def allFrom (b s : Nat) : List Int := (List.range' s (b - s)).map fun (i : Nat) => (i : Int)
theorem allFrom_incr (b : Nat) : ∀ (n s : Nat), b - s = n → IncrG b s (allFrom b s)
  | 0, s, h => by simp [allFrom, h, IncrG]
  | n + 1, s, h => by
    have e : allFrom b s = (s : Int) :: allFrom b (s + 1) := by
      unfold allFrom
      rw [h, show b - (s + 1) = n by omega, List.range'_succ]; rfl
    rw [e]
    exact ⟨by omega, by omega, by simpa using allFrom_incr b n (s + 1) (by omega)⟩
theorem mem_allFrom (b : Nat) (j : Nat) (h : j < b) : (j : Int) ∈ allFrom b 0 := by
  simp [allFrom]; exact ⟨j, h, rfl⟩

/-- Without any counts there is a truth. -/
theorem left_all {cc sm : Int} {l : List Int} {cs : List Cnt} (hl : ∀ x ∈ l, 0 ≤ x ∧ x ≤ 9) (hs : 0 ≤ sm) : leftB cc l sm cs (allFrom cs.length 0) = true := by
  unfold leftB
  rw [Bool.not_eq_true', List.isEmpty_eq_false_iff_exists_mem]
  have hz : ∀ (n i : Nat), (List.replicate n (0 : Int))[i]?.getD 0 = 0 := by
    intro n i
    rw [List.getElem?_replicate]; split <;> rfl
  refine ⟨List.replicate l.length 0, (mem_genP _ l 0 [] _).2 ⟨List.replicate l.length 0, rfl, by simp, fun i hi => ?_⟩⟩
  rw [hz]
  refine ⟨Int.le_refl 0, (hl _ (getD_mem hi)).1, ?_⟩
  unfold okP
  rw [Bool.and_eq_true]
  constructor
  · refine (rightG_iff _ _ _ 0 cs).2 fun j c hj _ _ hb => ?_
    have hjl := (List.getElem?_eq_some_iff.1 hj).1
    have : hasB (allFrom cs.length 0) (0 + (j : Nat)) = true := (hasB_iff _ _).2 (by rw [Int.zero_add]; exact mem_allFrom _ _ hjl)
    rw [hb] at this; cases this
  · have hg : ∀ j : Nat, ([] ++ (List.replicate l.length (0 : Int)).take i ++ [(0 : Int)])[j]?.getD 0 = 0 := by
      intro j
      rw [List.nil_append, List.take_replicate]
      rw [show (List.replicate (min i l.length) (0 : Int) ++ [0]) = List.replicate (min i l.length + 1) 0 by rw [List.replicate_succ']]
      exact hz _ _
    simp only [smoothB, Bool.and_eq_true, Bool.or_eq_true]
    rw [hg, hg, hg]
    refine ⟨.inr ?_, .inr ?_⟩ <;> simp [inB] <;> omega

/-- A list and an error come back. -/
def RetList (w : World) (P : List Int → Prop) (er : Int) (e : Ending) (w' : World) : Prop := ∃ p k c X, e = .returned (.tuple #[.slice p k c, .int .i64 er]) ∧ IntsAt w' p k X ∧ P X ∧ Below w.heap.size w w'

set_option maxRecDepth 40000 in
set_option maxHeartbeats 8000000 in
theorem Leave_any (r cc : Int) (p : Option Addr) (n c : Nat) (l : List Int) (sm : Int) (q : Option Addr) (m d : Nat) (cs : List Cnt) (w : World) (hl : IntsAt w p n l) (hcs : CntsAt w q m cs) (hn : n ≤ 100) (hm : m ≤ 100) :
    Calls Try.prog 31 #[.agg #[.int .i64 r, .int .i64 cc, .slice p n c, .int .i64 sm, .slice q m d]] w (RetList w (fun X => if faultL r cc l sm cs = 0 then First (leftB cc l sm cs) cs.length X else X = []) (faultL r cc l sm cs)) := by
  have HC := hid (fun W (hW : Below w.heap.size w W) => checkSurvey_any r cc p n c l sm q m d cs W (hl.below hW) (hcs.below hW) hn hm)
  have HL := hid hl
  have HCS := hid hcs
  clear hl hcs
  by_cases hf : faultL r cc l sm cs = 0
  · have HF := hid hf
    have hmf : ∀ (fn : Fn) (first cap : Array Value) (w : World), (Instr.makeFunc fn first cap).run Try.prog w = .ok (.func fn first cap) w := fun _ _ _ _ => rfl
    obtain ⟨PP, hPP⟩ : ∃ PP : List Int → Prop, (fun X => if faultL r cc l sm cs = 0 then First (leftB cc l sm cs) cs.length X else X = []) = PP := ⟨_, rfl⟩
    have HPP : Hid (∀ X, First (leftB cc l sm cs) cs.length X → PP X) := fun X h => by rw [← hPP]; show ite _ _ _; rw [if_pos hf]; exact h
    rw [hPP, hf]
    rw [hf] at HC
    have HALL := hid (left_all (cc := cc) (cs := cs) (field_facts (fault0 hf).2.1).2.2.2.2.2.2.2 (show 0 ≤ sm by have := (fault0 hf).2.2.1; simp [inB] at this; omega))
    have hmc : Hid (m = cs.length) := HCS.out.1
    clear hf hPP
    go_enter Try.func31, Try.ntmps31
    go_wp2_with fail
    refine (HC.out _ ?_).mono ?_
    · exact (Below.refl _ _).alloc (Nat.le_refl _) _
    rintro e w1 ⟨rfl, hb⟩
    have HB1 : Boxed1 w #[.int .i64 r, .int .i64 cc, .slice p n c, .int .i64 sm, .slice q m d] 36 w1 := Below.mono hb (by simp)
    obtain ⟨W2, hW2⟩ : ∃ W2, w1.alloc (.cells #[.slice none 0 0] 22) = W2 := ⟨_, rfl⟩
    have HB2 : Boxed1 w #[.int .i64 r, .int .i64 cc, .slice p n c, .int .i64 sm, .slice q m d] 36 W2 := by rw [← hW2]; exact HB1.alloc _
    have hsz := HB1.size
    have SB : SurvBox W2 w1.heap.size w.heap.size r cc p n c l sm q m d cs := by
      refine ⟨HB2.cell 0 rfl, HB2.cell 1 rfl, HB2.cell 2 rfl, HB2.cell 3 rfl, HB2.cell 4 rfl, HL.out.below HB2.below, HCS.out.below HB2.below, by omega, fun a ha h0 => ?_, fun a ha h0 => ?_⟩
      · obtain ⟨b1, o1, e, hlt, _⟩ := HL.out.at h0
        rw [ha] at e; cases e; show b1 ≠ _; omega
      · obtain ⟨x, _, b1, o1, e, hlt, _⟩ := HCS.out.at h0
        rw [ha] at e; cases e; show b1 ≠ _; omega
    have hfree : Free W2 w1.heap.size := by rw [← hW2]; exact ⟨_, cell_box w1 _ 22 0 _ rfl, frozen_new w1 _ 22 0 rfl⟩
    have HFREE := hid hfree
    have HSB := hid SB
    have HBW := hid HB2.below
    have HS1 : Hid (w.heap.size + 1 ≤ w1.heap.size) := hsz
    have hc4 := HB2.cell 4 (v := .slice q m d) rfl
    have hg0 := HB2.cell 0 (v := .int .i64 r) rfl
    have hg1 := HB2.cell 1 (v := .int .i64 cc) rfl
    have hg2 := HB2.cell 2 (v := .slice p n c) rfl
    have hg3 := HB2.cell 3 (v := .int .i64 sm) rfl
    clear hb HB1 HB2 SB hfree hsz
    go_wp2_with fail
    go_loopw [16] (fun x wr => ∃ k : Nat, k ≤ m + 1 ∧ x = .int .i64 k ∧ Near (fun k => k = w1.heap.size) W2 wr ∧ Free wr w1.heap.size ∧ ∀ j, j < k → ∀ y ∈ combos m j 0, leftB cc l sm cs y = false) (fun x _ => m + 1 - (intOf x).toNat)
    case atStart => exact ⟨0, Nat.zero_le _, rfl, Near.refl _ _, HFREE.out, fun j hj => by omega⟩
    case round =>
      obtain ⟨k, hk, rfl, hnr, hfr, hno⟩ := hrel
      have HNR := hid hnr
      have HFR := hid hfr
      have HNO := hid hno
      have SBR := HSB.out.near hnr
      have hc4 := SBR.c4
      clear hnr hfr hno SBR
      by_cases hlt : k < m + 1
      · have hltI : (k : Int) < (m : Int) + 1 := by omega
        obtain ⟨res, hres⟩ : ∃ res, (combos m k 0).find? (leftB cc l sm cs) = res := ⟨_, rfl⟩
        have HCALL : Hid (Calls Try.prog 78 #[.int .i64 m, .int .i64 k, .func (.func 81) #[] #[.pointer (some ⟨w1.heap.size, 0, none⟩), .pointer (some ⟨w.heap.size, 0, none⟩)]] wr (LPost w1.heap.size wr res)) := by
          rw [← hres]
          exact lists_81 (fun V => Near (fun k => k = w1.heap.size) W2 V) (leftB cc l sm cs) m w1.heap.size w1.heap.size w.heap.size (fun W1 W2 h1 h2 => h1.trans h2) hm
            (fun X px kx cx V hI hF hP hkx _ _ => leave1_any w1.heap.size w.heap.size r cc p n c l sm q m d cs X px kx cx V hm HF.out (HSB.out.near hI) hF hP hkx) k (by omega) wr HNR.out HFR.out
        have HRES := hid hres
        clear hres
        go_wp2_with fail
        refine HCALL.out.mono ?_
        rintro e W4 ⟨rfl, hn4, hf4, hx4⟩
        have HN4 := hid (HNR.out.trans hn4)
        have HF4 := hid hf4
        have HX4 := hid hx4
        clear hn4 hf4 hx4
        cases res with
        | none =>
          go_wp2_with fail
          go_roundw
          case rel =>
            refine ⟨k + 1, by omega, by go_num, HN4.out, HF4.out, fun j hj y hy => ?_⟩
            by_cases e : j = k
            · subst e
              have := List.find?_eq_none.1 HRES.out y hy
              simpa using this
            · exact HNO.out j (by omega) y hy
          case measure => simp [intOf]; omega
        | some X =>
          obtain ⟨pf, kf, cf, hcf, hif⟩ := HX4.out X rfl
          have HIF := hid hif
          clear hif
          go_wp2_with fail
          go_ret2
          exact ⟨pf, kf, cf, X, rfl, HIF.out, HPP.out X (by rw [← hmc.out]; exact first_of HNO.out HRES.out), HBW.out.trans (HN4.out.below HBW.out.size (fun k hk e => by have := HS1.out; omega))⟩
      · exfalso
        have h1 := HNO.out m (by omega) (allFrom m 0) ((mem_combos m m 0 _).2 ⟨by simp [allFrom], allFrom_incr m _ 0 rfl⟩)
        have h2 := HALL.out
        rw [← hmc.out, h1] at h2
        cases h2
  · obtain ⟨PP, hPP⟩ : ∃ PP : List Int → Prop, (fun X => if faultL r cc l sm cs = 0 then First (leftB cc l sm cs) cs.length X else X = []) = PP := ⟨_, rfl⟩
    have HPP : Hid (PP []) := by rw [← hPP]; show ite _ _ _; rw [if_neg hf]
    rw [hPP]
    clear hPP
    generalize faultL r cc l sm cs = fl at *
    have hfb : (fl == 0) = false := by simp [hf]
    go_enter Try.func31, Try.ntmps31
    go_wp2_with fail
    refine (HC.out _ ?_).mono ?_
    · exact (Below.refl _ _).alloc (Nat.le_refl _) _
    rintro e w1 ⟨rfl, hb⟩
    have HB1 : Hid (Boxed1 w #[.int .i64 r, .int .i64 cc, .slice p n c, .int .i64 sm, .slice q m d] 36 w1) := Below.mono hb (by simp)
    clear hb
    go_wp2_with fail
    go_ret2
    exact ⟨none, 0, 0, [], rfl, IntsAt.nil _, HPP.out, HB1.out.below⟩
end Go.Proofs.Ytlicijnaacdceaa

/- What a truth shows at some places. -/
namespace Go.Proofs.Ytlicijnaacdceaa
open Go.RowKit

/-- What a truth shows at some places. -/
def seenL (h X : List Int) : List Int := (List.range 9).map fun (j : Nat) => if (j : Int) ∈ X then h[j]?.getD 0 else 0
theorem seenL_get (h X : List Int) (j : Nat) (hj : j < 9) : (seenL h X)[j]?.getD 0 = if (j : Int) ∈ X then h[j]?.getD 0 else 0 := by
  simp [seenL, hj]
theorem HitsW.put {W : World} {b : Nat} {h h' : List Int} (hh : HitsW W b h) {i : Nat} (hi : i < 9) (v : Int) (he : ∀ j, j < 9 → h'[j]?.getD 0 = if j = i then v else h[j]?.getD 0) : HitsW (W.setCell ⟨b, i, none⟩ (.int .i64 v)) b h' := by
  refine ⟨fun j hj => ?_, fun j hj => by rw [World.frozen?_setCell]; exact hh.2 j hj⟩
  rw [he j hj]
  by_cases e : j = i
  · subst e
    rw [if_pos rfl, World.cell?_setCell_same' _ _ _ (by rw [hh.1 _ hj]; rfl)]
  · rw [if_neg e, World.cell?_setCell_other _ _ _ _ (by first | (simp; done) | (simp; omega) | (simp; exact fun h => e h.symm)), hh.1 j hj]
theorem seenL_nil (h : List Int) (j : Nat) (hj : j < 9) : (seenL h [])[j]?.getD 0 = ([] : List Int)[j]?.getD 0 := by
  rw [seenL_get _ _ _ hj]; simp

set_option maxRecDepth 40000 in
set_option maxHeartbeats 8000000 in
theorem seen_any (h X : List Int) (p : Option Addr) (k c : Nat) (W : World) (hX : IntsAt W p k X) (hk : k ≤ 100) (hb : ∀ x ∈ X, 0 ≤ x ∧ x < 9) :
    Calls Try.prog 76 #[hitsV h, .slice p k c] W fun e W' => e = .returned (hitsV (seenL h X)) ∧ Below W.heap.size W W' := by
  have HX := hid hX
  have HB := hid hb
  obtain ⟨W1, hW1⟩ : ∃ W1, W.alloc (.cells #[.int .i64 (h[0]?.getD 0), .int .i64 (h[1]?.getD 0), .int .i64 (h[2]?.getD 0), .int .i64 (h[3]?.getD 0), .int .i64 (h[4]?.getD 0), .int .i64 (h[5]?.getD 0), .int .i64 (h[6]?.getD 0), .int .i64 (h[7]?.getD 0), .int .i64 (h[8]?.getD 0)] 116) = W1 := ⟨_, rfl⟩
  obtain ⟨W2, hW2⟩ : ∃ W2, W1.alloc (.cells #[.int .i64 0, .int .i64 0, .int .i64 0, .int .i64 0, .int .i64 0, .int .i64 0, .int .i64 0, .int .i64 0, .int .i64 0] 116) = W2 := ⟨_, rfl⟩
  have hs1 : W1.heap.size = W.heap.size + 1 := by rw [← hW1]; simp
  have hb1 : Below W.heap.size W W1 := by rw [← hW1]; exact (Below.refl _ _).alloc (Nat.le_refl _) _
  have hb2 : Below W1.heap.size W1 W2 := by rw [← hW2]; exact (Below.refl _ _).alloc (Nat.le_refl _) _
  have HH : Hid (HitsAt W2 W.heap.size h) := fun i hi => (hb2.cell (p := ⟨W.heap.size, i, none⟩) (by show W.heap.size < _; omega)).trans ((by rw [← hW1]; exact hitsAt_box W h 116 : HitsAt W1 W.heap.size h) i hi)
  have HO : Hid (HitsW W2 W1.heap.size (seenL h [])) := by
    have h0 : HitsW W2 W1.heap.size [] := by rw [← hW2]; exact hitsAt_zero W1 116
    exact ⟨fun i hi => by rw [seenL_nil h i hi]; exact h0.1 i hi, h0.2⟩
  have HBW : Hid (Below W.heap.size W W2) := hb1.trans (hb2.mono (by omega))
  have HS1 := hid hs1
  clear hX hb hs1 hb1 hb2
  unfold hitsV
  go_enter Try.func76, Try.ntmps76
  go_wp2_with fail
  go_loopw [6, 9] (fun y x wr => ∃ i : Nat, i ≤ k ∧ x = .int .i64 i ∧ Below (W.heap.size + 1) W2 wr ∧ HitsW wr W1.heap.size (seenL h (X.take i))) (fun _ x _ => k - (intOf x).toNat)
  case atStart => exact ⟨0, Nat.zero_le _, rfl, Below.refl _ _, by simpa using HO.out⟩
  case round =>
    obtain ⟨i, hi, rfl, hbr, hh⟩ := hrel
    have HBR := hid hbr
    have HHR := hid hh
    clear hbr hh
    by_cases hlt : i < k
    · obtain ⟨b1, o1, rfl, hb1, hc1⟩ := (HX.out.below (HBW.out.trans (HBR.out.mono (by omega)))).at hlt
      have hx := HB.out _ (getD_mem (l := X) (k := i) (by have := HX.out.1; omega))
      obtain ⟨x, hxe⟩ : ∃ x : Nat, X[i]?.getD 0 = x := ⟨(X[i]?.getD 0).toNat, by omega⟩
      rw [hxe] at hc1 hx
      have hx9 : x < 9 := by omega
      have hq : wr.cell? ⟨W.heap.size, x, none⟩ = some (.int .i64 (h[x]?.getD 0)) := (HBR.out.cell (p := ⟨W.heap.size, x, none⟩) (by show W.heap.size < _; omega)).trans (HH.out x hx9)
      have hf := HHR.out.2 x hx9
      have hz := HHR.out.1 x hx9
      have HNEW : Hid (HitsW (wr.setCell ⟨W1.heap.size, x, none⟩ (.int .i64 (h[x]?.getD 0))) W1.heap.size (seenL h (X.take (i + 1)))) := by
        refine HHR.out.put hx9 _ fun j hj => ?_
        rw [seenL_get _ _ _ hj, seenL_get _ _ _ hj]
        have htk : X.take (i + 1) = X.take i ++ [(x : Int)] := by
          have hkl : i < X.length := by have := HX.out.1; omega
          rw [List.take_add_one, List.getElem?_eq_getElem hkl]
          have : X[i] = (x : Int) := by rw [← hxe]; simp [hkl]
          rw [this]; rfl
        rw [htk]
        by_cases e : j = x
        · subst e; simp
        · rw [if_neg e]
          have : ((j : Int) ∈ X.take i ++ [(x : Int)]) ↔ (j : Int) ∈ X.take i := by
            simp; omega
          simp only [this]
      have HXE := hid hxe
      clear hxe hx
      go_wp2_with fail
      go_roundw
      case rel => exact ⟨i + 1, by omega, by go_num, HBR.out.setCell (by show W.heap.size + 1 ≤ W1.heap.size; have := HS1.out; omega) _, HNEW.out⟩
      case measure => simp [intOf]; omega
    · have hke : X.take i = X := List.take_of_length_le (by have := HX.out.1; omega)
      have HHE : Hid (HitsW wr W1.heap.size (seenL h X)) := by have := HHR.out; rw [hke] at this; exact this
      obtain ⟨sx, hsx⟩ : ∃ sx, sx = seenL h X := ⟨_, rfl⟩
      rw [← hsx] at HHE
      have HSX := hid hsx
      clear HHR hke
      have hh := HHE.out
      have q0 := hh.1 0 (by omega)
      have q1 := hh.1 1 (by omega)
      have q2 := hh.1 2 (by omega)
      have q3 := hh.1 3 (by omega)
      have q4 := hh.1 4 (by omega)
      have q5 := hh.1 5 (by omega)
      have q6 := hh.1 6 (by omega)
      have q7 := hh.1 7 (by omega)
      have q8 := hh.1 8 (by omega)
      have f0 := hh.2 0 (by omega)
      have f1 := hh.2 1 (by omega)
      have f2 := hh.2 2 (by omega)
      have f3 := hh.2 3 (by omega)
      have f4 := hh.2 4 (by omega)
      have f5 := hh.2 5 (by omega)
      have f6 := hh.2 6 (by omega)
      have f7 := hh.2 7 (by omega)
      have f8 := hh.2 8 (by omega)
      clear hh hsx
      go_wp2_with fail
      have HST := HHE.out.stored
      have hb9 := below_store9 (h := sx) (b := W1.heap.size) (HBW.out.trans (HBR.out.mono (by omega))) (by have := HS1.out; omega)
      obtain ⟨W9, hW9⟩ : ∃ W9, store9 wr W1.heap.size sx = W9 := ⟨_, rfl⟩
      rw [hW9] at HST hb9
      unfold store9 at hW9
      rw [hW9]
      clear q0 q1 q2 q3 q4 q5 q6 q7 q8
      have q0 := HST.1 0 (by omega)
      have q1 := HST.1 1 (by omega)
      have q2 := HST.1 2 (by omega)
      have q3 := HST.1 3 (by omega)
      have q4 := HST.1 4 (by omega)
      have q5 := HST.1 5 (by omega)
      have q6 := HST.1 6 (by omega)
      have q7 := HST.1 7 (by omega)
      have q8 := HST.1 8 (by omega)
      exact bodyPost_ret (v := hitsV sx) (by simp [results, Try.f76, go_sem, q0, q1, q2, q3, q4, q5, q6, q7, q8, hitsV]) rfl ⟨by rw [HSX.out]; rfl, hb9⟩
end Go.Proofs.Ytlicijnaacdceaa
