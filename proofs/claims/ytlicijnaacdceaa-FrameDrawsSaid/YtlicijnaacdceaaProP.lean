/- The program: truths, the share of a field, listed, Share and part -/
import Derived.Test.YtlicijnaacdceaaProK
import Derived.Laws.ResultCell
/- A survey at work; its iterator is made. -/
namespace Go.Proofs.Ytlicijnaacdceaa
open Go.RowKit

set_option maxHeartbeats 1000000 in
theorem work_any (r cc : Int) (p : Option Addr) (n c : Nat) (sm : Int) (q : Option Addr) (m d : Nat) (po : Option Addr) (no co : Nat) (w : World) :
    Calls Try.prog 72 #[.agg #[.int .i64 r, .int .i64 cc, .slice p n c, .int .i64 sm, .slice q m d], .slice po no co] w fun e w' =>
      e = .returned (.pointer (some ⟨w.heap.size + 2, 0, none⟩)) ∧ WorkAt w' (w.heap.size + 2) r cc p n c sm q m d po no co (w.heap.size + 1) ∧ MapIs w' 145 (w.heap.size + 1) 0 (fun _ => none) ∧ w'.heap.size = w.heap.size + 3 ∧ Below w.heap.size w w' := by
  have hmm := @run_makeMap Try.prog
  go_enter Try.func72, Try.ntmps72
  go_wp2_with fail
  go_ret
  have hb1 : Below w.heap.size w (w.alloc (.cells #[.int .i64 r, .int .i64 cc, .slice p n c, .int .i64 sm, .slice q m d] 36)) := (Below.refl _ _).alloc (Nat.le_refl _) _
  have hM := MapIs.made (w.alloc (.cells #[.int .i64 r, .int .i64 cc, .slice p n c, .int .i64 sm, .slice q m d] 36)) 145
  rw [World.size_alloc] at hM
  have hc : ∀ (i : Nat) (v : Value), #[.int .i64 r, .int .i64 cc, .slice p n c, .int .i64 sm, .slice q m d, .slice po no co, .map (some (w.heap.size + 1))][i]? = some v →
      ((((w.alloc (.cells #[.int .i64 r, .int .i64 cc, .slice p n c, .int .i64 sm, .slice q m d] 36)).alloc (.map #[] 0)).alloc (.cells #[.int .i64 r, .int .i64 cc, .slice p n c, .int .i64 sm, .slice q m d, .slice po no co, .map (some (w.heap.size + 1))] 141)).cell? ⟨w.heap.size + 2, i, none⟩ = some v) := by
    intro i v hv
    have := cell_box ((w.alloc (.cells #[.int .i64 r, .int .i64 cc, .slice p n c, .int .i64 sm, .slice q m d] 36)).alloc (.map #[] 0)) _ 141 i v hv
    rw [World.size_alloc, World.size_alloc] at this
    exact this
  refine ⟨by rfl, ⟨hc 0 _ rfl, hc 1 _ rfl, hc 2 _ rfl, hc 3 _ rfl, hc 4 _ rfl, hc 5 _ rfl, hc 6 _ rfl⟩, hM.below ((Below.refl _ _).alloc (Nat.le_refl _) _), by simp, (hb1.alloc (by simp) _).alloc (by simp; omega) _⟩

set_option maxHeartbeats 1000000 in
theorem truthsF_any (b : Nat) (w : World) :
    Calls Try.prog 73 #[.pointer (some ⟨b, 0, none⟩)] w fun e w' =>
      e = .returned (.func (.func 95) #[] #[.pointer (some ⟨w.heap.size, 0, none⟩)]) ∧ w' = w.alloc (.cells #[.pointer (some ⟨b, 0, none⟩)] 112) := by
  have hmf : ∀ (fn : Fn) (first cap : Array Value) (w : World), (Instr.makeFunc fn first cap).run Try.prog w = .ok (.func fn first cap) w := fun _ _ _ _ => rfl
  go_enter Try.func73, Try.ntmps73
  go_wp2_with fail
  go_ret
  exact ⟨rfl, rfl⟩
end Go.Proofs.Ytlicijnaacdceaa

/- The share of a field with hits, in the program. -/
namespace Go.Proofs.Ytlicijnaacdceaa
open Go.RowKit

set_option maxRecDepth 40000 in
set_option maxHeartbeats 1000000 in
theorem fieldShare_any (r cc : Int) (p : Option Addr) (n c : Nat) (l h : List Int) (w : World) (hl : IntsAt w p n l) (hhl : n = h.length) (hn : n ≤ 9) (hs : ∀ x ∈ l, 0 ≤ x ∧ x ≤ 9) (ht : ∀ x ∈ h, 0 ≤ x ∧ x ≤ 9) :
    Calls Try.prog 74 #[.agg #[.int .i64 r, .int .i64 cc, .slice p n c], hitsV h] w fun e w' => e = .returned (.int .i64 (shareL l h)) ∧ Below w.heap.size w w' := by
  have HS := hid hs
  have HT := hid ht
  have HHL := hid hhl
  obtain ⟨W, hW⟩ : ∃ W, (w.alloc (.cells #[.int .i64 r, .int .i64 cc, .slice p n c] 33)).alloc (.cells #[.int .i64 (h[0]?.getD 0), .int .i64 (h[1]?.getD 0), .int .i64 (h[2]?.getD 0), .int .i64 (h[3]?.getD 0), .int .i64 (h[4]?.getD 0), .int .i64 (h[5]?.getD 0), .int .i64 (h[6]?.getD 0), .int .i64 (h[7]?.getD 0), .int .i64 (h[8]?.getD 0)] 116) = W := ⟨_, rfl⟩
  have hbW : Below w.heap.size w W := by rw [← hW]; exact ((Below.refl _ _).alloc (Nat.le_refl _) _).alloc (by simp) _
  have HL := hid (hl.below hbW)
  have hc2 : W.cell? ⟨w.heap.size, 2, none⟩ = some (.slice p n c) := by
    rw [← hW]
    exact (((Below.refl _ _).alloc (Nat.le_refl _) _ : Below (w.alloc (.cells #[.int .i64 r, .int .i64 cc, .slice p n c] 33)).heap.size _ _).cell (p := ⟨w.heap.size, 2, none⟩) (by simp)).trans (cell_box w _ _ 2 _ rfl)
  have HH : Hid (HitsAt W (w.heap.size + 1) h) := by
    have := hitsAt_box (w.alloc (.cells #[.int .i64 r, .int .i64 cc, .slice p n c] 33)) h 116
    rw [hW, World.size_alloc] at this
    exact this
  have HBW := hid hbW
  clear hs ht hl hbW hhl
  unfold hitsV
  go_enter Try.func74, Try.ntmps74
  go_wp2_with fail
  go_loopw [5, 6, 12] (fun x y i wr => ∃ (k : Nat) (a b : Int), k ≤ n ∧ i = .int .i64 k ∧ x = .int .i64 a ∧ y = .int .i64 b ∧ 0 ≤ a ∧ a ≤ 9 * k ∧ 0 ≤ b ∧ b ≤ 9 * k ∧ shareG (h.drop k) (l.drop k) a b = shareL l h ∧ wr = W) (fun _ _ i _ => n - (intOf i).toNat)
  case atStart => exact ⟨0, 0, 0, by omega, rfl, rfl, rfl, by omega, by omega, by omega, by omega, rfl, rfl⟩
  case round =>
    obtain ⟨k, a, b, hk, rfl, rfl, rfl, a0, a1, b0, b1, hr, rfl⟩ := hrel
    have HR := hid hr
    clear hr
    by_cases hlt : k < n
    · obtain ⟨b2, o2, rfl, hb2, hc3⟩ := HL.out.at hlt
      have hc4 := HH.out k (by omega)
      have hx := HT.out _ (getD_mem (l := h) (k := k) (by have := HHL.out; omega))
      have hy := HS.out _ (getD_mem (l := l) (k := k) (by have := HL.out.1; omega))
      have HF : Hid (shareG (h.drop (k + 1)) (l.drop (k + 1)) (a + h[k]?.getD 0) (b + l[k]?.getD 0) = shareL l h) := by
        show _ = _; rw [← HR.out, drop_at h k (by have := HHL.out; omega), drop_at l k (by have := HL.out.1; omega), shareG]
      have hk9 : k < 9 := by omega
      clear hW
      go_wp2_with fail
      go_roundw
      case rel => exact ⟨k + 1, _, _, by omega, by go_num, rfl, rfl, by omega, by omega, by omega, by omega, HF.out, trivial⟩
      case measure => simp [intOf]; omega
    · have HF : Hid ((if b = 0 then 0 else a * 100 / b) = shareL l h) := by
        show _ = _; rw [← HR.out, List.drop_of_length_le (l := h) (by have := HHL.out; omega)]; cases l.drop k <;> rfl
      clear hW
      by_cases hb : b = 0
      · have hb' : (b == 0) = true := by simp [hb]
        go_wp2
        go_ret
        exact ⟨ret_int (by rw [← HF.out, if_pos hb]), HBW.out⟩
      · have hb' : (b == 0) = false := by simp [hb]
        have hq0 : 0 ≤ a * 100 / b := Int.ediv_nonneg (by omega) b0
        have hq1 : a * 100 / b ≤ 90000 := Int.le_trans (Int.ediv_le_self _ (by omega)) (by omega)
        go_wp2
        go_ret
        exact ⟨ret_int (by rw [← HF.out, if_neg hb]), HBW.out⟩
end Go.Proofs.Ytlicijnaacdceaa

/- A list as hits, in the program. -/
namespace Go.Proofs.Ytlicijnaacdceaa
open Go.RowKit

theorem HitsW.set {W : World} {b : Nat} {h : List Int} (hh : HitsW W b h) (hl : h.length < 9) (x : Int) : HitsW (W.setCell ⟨b, h.length, none⟩ (.int .i64 x)) b (h ++ [x]) := by
  refine ⟨fun i hi => ?_, fun i hi => by rw [World.frozen?_setCell]; exact hh.2 i hi⟩
  by_cases e : i = h.length
  · subst e
    rw [World.cell?_setCell_same' _ _ _ (by rw [hh.1 _ hl]; rfl)]
    simp
  · rw [World.cell?_setCell_other _ _ _ _ (by first | (simp; done) | (simp; omega) | (simp; exact fun h => e h.symm)), hh.1 i hi]
    congr 2
    by_cases h2 : i < h.length
    · rw [List.getElem?_append_left h2]
    · rw [List.getElem?_eq_none (l := h) (by omega), List.getElem?_eq_none (by simp; omega)]

theorem load_hits {w : World} {b : Nat} {h : List Int} (hh : HitsAt w b h) : (loadVar 116 ⟨b, 0, none⟩).run Try.prog w = .ok (hitsV h) w := by
  have q0 := hh 0 (by omega)
  have q1 := hh 1 (by omega)
  have q2 := hh 2 (by omega)
  have q3 := hh 3 (by omega)
  have q4 := hh 4 (by omega)
  have q5 := hh 5 (by omega)
  have q6 := hh 6 (by omega)
  have q7 := hh 7 (by omega)
  have q8 := hh 8 (by omega)
  simp [go_sem, hitsV, q0, q1, q2, q3, q4, q5, q6, q7, q8]

/-- Where the hits lie in a cell of the results, and a bool beside them. -/
theorem ret_hits {fn : Func} {p u : Tmp} (hf : fn.results = #[.cell p 116, .tmp u]) {tmps : Array Value} {w : World} {b : Nat} {h : List Int} {v : Value} {R : Ending → World → Prop} (hp : tmps.getD p undef = .pointer (some ⟨b, 0, none⟩)) (hu : tmps.getD u undef = v) (hh : HitsAt w b h)
    (hR : R (.returned (.tuple #[hitsV h, v])) w) : bodyPost Try.prog fn R .ret { tmps := tmps, defers := [] } w := by
  refine bodyPost_ret (v := .tuple #[hitsV h, v]) ?_ rfl hR
  rw [results_cell_tmp hf, hp, hu]
  have h1 : (asAddr (.pointer (some ⟨b, 0, none⟩))).run Try.prog w = .ok ⟨b, 0, none⟩ w := by simp [go_sem, asAddr]
  rw [h1]
  simp only [Result.andThen]
  rw [load_hits hh]

theorem HitsW.same {W : World} {b : Nat} {h : List Int} (hh : HitsW W b h) {i : Nat} (hi : i < 9) : HitsW (W.setCell ⟨b, i, none⟩ (.int .i64 (h[i]?.getD 0))) b h := by
  refine ⟨fun j hj => ?_, fun j hj => by rw [World.frozen?_setCell]; exact hh.2 j hj⟩
  by_cases e : j = i
  · subst e
    rw [World.cell?_setCell_same' _ _ _ (by rw [hh.1 _ hj]; rfl)]
  · rw [World.cell?_setCell_other _ _ _ _ (by first | (simp; done) | (simp; omega) | (simp; exact fun h => e h.symm)), hh.1 j hj]

/-- The hits stored where they lie. -/
def store9 (w : World) (b : Nat) (h : List Int) : World :=
  (((((((((w.setCell ⟨b, 0, none⟩ (.int .i64 (h[0]?.getD 0))).setCell ⟨b, 1, none⟩ (.int .i64 (h[1]?.getD 0))).setCell ⟨b, 2, none⟩ (.int .i64 (h[2]?.getD 0))).setCell ⟨b, 3, none⟩ (.int .i64 (h[3]?.getD 0))).setCell ⟨b, 4, none⟩ (.int .i64 (h[4]?.getD 0))).setCell ⟨b, 5, none⟩ (.int .i64 (h[5]?.getD 0))).setCell ⟨b, 6, none⟩ (.int .i64 (h[6]?.getD 0))).setCell ⟨b, 7, none⟩ (.int .i64 (h[7]?.getD 0))).setCell ⟨b, 8, none⟩ (.int .i64 (h[8]?.getD 0)))
theorem HitsW.stored {w : World} {b : Nat} {h : List Int} (hh : HitsW w b h) : HitsW (store9 w b h) b h :=
  ((((((((hh.same (i := 0) (by omega)).same (i := 1) (by omega)).same (i := 2) (by omega)).same (i := 3) (by omega)).same (i := 4) (by omega)).same (i := 5) (by omega)).same (i := 6) (by omega)).same (i := 7) (by omega)).same (i := 8) (by omega)
theorem below_store9 {B : Nat} {a w : World} {b : Nat} {h : List Int} (hb : Below B a w) (hB : B ≤ b) : Below B a (store9 w b h) :=
  ((((((((hb.setCell (p := ⟨b, 0, none⟩) hB _).setCell (p := ⟨b, 1, none⟩) hB _).setCell (p := ⟨b, 2, none⟩) hB _).setCell (p := ⟨b, 3, none⟩) hB _).setCell (p := ⟨b, 4, none⟩) hB _).setCell (p := ⟨b, 5, none⟩) hB _).setCell (p := ⟨b, 6, none⟩) hB _).setCell (p := ⟨b, 7, none⟩) hB _).setCell (p := ⟨b, 8, none⟩) hB _

/-- Hits and a bool come back. -/
def RetHits (w : World) (l th : List Int) : Ending → World → Prop := fun e w' => ∃ h', e = .returned (.tuple #[hitsV h', .bool (isListedB l th)]) ∧ (isListedB l th = true → h' = th) ∧ Below w.heap.size w w'

set_option maxRecDepth 40000 in
set_option maxHeartbeats 2000000 in
theorem listed_any (r cc : Int) (p : Option Addr) (n c : Nat) (l : List Int) (sm : Int) (q : Option Addr) (m d : Nat) (po : Option Addr) (no co : Nat) (th : List Int) (w : World) (hl : IntsAt w p n l) (hn : n ≤ 9) (ht : IntsAt w po no th) (hno : no ≤ 1000000) :
    Calls Try.prog 85 #[.agg #[.int .i64 r, .int .i64 cc, .slice p n c, .int .i64 sm, .slice q m d], .slice po no co] w (RetHits w l th) := by
  have HL := hid hl
  have HT := hid ht
  clear hl ht
  by_cases hne : no = n
  · subst hne
    have HE : Hid (isListedB l th = isListedG l th 0 no) := by
      show _ = _; simp [isListedB, ← HL.out.1, ← HT.out.1]
    go_enter Try.func85, Try.ntmps85
    go_wp2_with fail
    refine (places_any _ _ _ _ _ _).mono ?_
    rintro e w1 ⟨rfl, hb1⟩
    have hh : HitsW w1 (w.heap.size + 1) [] := by
      have := hitsAt_zero (w.alloc (.cells #[.int .i64 r, .int .i64 cc, .slice p no c, .int .i64 sm, .slice q m d] 36)) 116
      rw [World.size_alloc] at this
      exact this.kept (hb1.block _ (by simp))
    have HB : Hid (Boxed1 w #[.int .i64 r, .int .i64 cc, .slice p no c, .int .i64 sm, .slice q m d] 36 w1) := ((Below.refl _ _).alloc (by simp) _).trans (hb1.mono (by simp))
    have HHh := hid hh
    clear hh hb1
    go_wp2_with fail
    go_loopw [17] (fun i wr => ∃ k : Nat, k ≤ no ∧ i = .int .i64 k ∧ isListedG l th k (no - k) = isListedB l th ∧ Boxed1 w #[.int .i64 r, .int .i64 cc, .slice p no c, .int .i64 sm, .slice q m d] 36 wr ∧ HitsW wr (w.heap.size + 1) (th.take k)) (fun i _ => no - (intOf i).toNat)
    case atStart => exact ⟨0, Nat.zero_le _, rfl, HE.out.symm, HB.out, HHh.out⟩
    case round =>
      clear HHh HB
      obtain ⟨k, hk, rfl, hr, HB, hh⟩ := hrel
      have HR := hid hr
      clear hr
      have hc2 := HB.cell 2 (v := .slice p no c) rfl
      have HHh := hid hh
      have hB1 := HB.size
      have htk : (th.take k).length = k := by rw [List.length_take]; have := HT.out.1; omega
      by_cases hlt : k < no
      · obtain ⟨b1, o1, rfl, hb1, hc1⟩ := (HL.out.below HB.below).at hlt
        obtain ⟨b2, o2, rfl, hb2, hc2'⟩ := (HT.out.below HB.below).at hlt
        have HG := hid (allR_go (fun i => inB (th[i]?.getD 0) 0 (l[i]?.getD 0)) k no hlt)
        cases hx : inB (th[k]?.getD 0) 0 (l[k]?.getD 0)
        · have HF : Hid (isListedB l th = false) := by show _ = _; rw [← HR.out, isListedG, HG.out, hx]; rfl
          obtain ⟨tk, htke⟩ : ∃ tk, tk = th.take k := ⟨_, rfl⟩
          rw [← htke] at hh HHh
          have q0 := hh.1 0 (by omega)
          have q1 := hh.1 1 (by omega)
          have q2 := hh.1 2 (by omega)
          have q3 := hh.1 3 (by omega)
          have q4 := hh.1 4 (by omega)
          have q5 := hh.1 5 (by omega)
          have q6 := hh.1 6 (by omega)
          have q7 := hh.1 7 (by omega)
          have q8 := hh.1 8 (by omega)
          have f0 := hh.2 0 (by omega)
          have f1 := hh.2 1 (by omega)
          have f2 := hh.2 2 (by omega)
          have f3 := hh.2 3 (by omega)
          have f4 := hh.2 4 (by omega)
          have f5 := hh.2 5 (by omega)
          have f6 := hh.2 6 (by omega)
          have f7 := hh.2 7 (by omega)
          have f8 := hh.2 8 (by omega)
          clear hh htke htk
          go_wp2_with (go_at_call 90; refine (within_any _ _ _ _).mono ?_; rintro e w' ⟨rfl, rfl⟩)
          refine ret_hits (h := tk) rfl rfl rfl (HHh.out.stored).1 ?_
          exact ⟨tk, by rw [HF.out]; rfl, (fun h => by rw [HF.out] at h; cases h), below_store9 HB.below (by omega)⟩
        · have HF : Hid (isListedG l th (k + 1) (no - (k + 1)) = isListedB l th) := by show _ = _; rw [← HR.out]; unfold isListedG; rw [HG.out]; simp [hx]
          have hset := HHh.out.set (by omega) (th[k]?.getD 0)
          rw [htk] at hset
          have HST := hid hset
          have hq := hh.1 k (by omega)
          have hfz := hh.2 k (by omega)
          have hk9 : k < 9 := by omega
          have htk1 : th.take (k + 1) = th.take k ++ [th[k]?.getD 0] := by
            have hkl : k < th.length := by have := HT.out.1; omega
            rw [List.take_add_one, List.getElem?_eq_getElem hkl]; rfl
          have HTK := hid htk1
          clear hset hh htk htk1
          go_wp2_with (go_at_call 90; refine (within_any _ _ _ _).mono ?_; rintro e w' ⟨rfl, rfl⟩)
          go_roundw
          case rel => exact ⟨k + 1, by omega, by go_num, HF.out, HB.setCell (by show w.heap.size + 1 ≤ w.heap.size + 1; omega) _, by rw [HTK.out]; exact HST.out⟩
          case measure => simp [intOf]; omega
      · have HF : Hid (isListedB l th = true) := by show _ = _; rw [← HR.out, show no - k = 0 by omega]; rfl
        have hke : th.take k = th := List.take_of_length_le (by have := HT.out.1; omega)
        rw [hke] at hh HHh
        have q0 := hh.1 0 (by omega)
        have q1 := hh.1 1 (by omega)
        have q2 := hh.1 2 (by omega)
        have q3 := hh.1 3 (by omega)
        have q4 := hh.1 4 (by omega)
        have q5 := hh.1 5 (by omega)
        have q6 := hh.1 6 (by omega)
        have q7 := hh.1 7 (by omega)
        have q8 := hh.1 8 (by omega)
        have f0 := hh.2 0 (by omega)
        have f1 := hh.2 1 (by omega)
        have f2 := hh.2 2 (by omega)
        have f3 := hh.2 3 (by omega)
        have f4 := hh.2 4 (by omega)
        have f5 := hh.2 5 (by omega)
        have f6 := hh.2 6 (by omega)
        have f7 := hh.2 7 (by omega)
        have f8 := hh.2 8 (by omega)
        clear hh hke htk
        go_wp2_with fail
        refine ret_hits (h := th) rfl rfl rfl (HHh.out.stored).1 ?_
        exact ⟨th, by rw [HF.out]; rfl, fun _ => rfl, below_store9 HB.below (by omega)⟩
  · have hne2 : ((no : Int) == (n : Int)) = false := by simp; omega
    go_enter Try.func85, Try.ntmps85
    go_wp2_with fail
    refine (places_any _ _ _ _ _ _).mono ?_
    rintro e w1 ⟨rfl, hb1⟩
    have hh : HitsW w1 (w.heap.size + 1) [] := by
      have := hitsAt_zero (w.alloc (.cells #[.int .i64 r, .int .i64 cc, .slice p n c, .int .i64 sm, .slice q m d] 36)) 116
      rw [World.size_alloc] at this
      exact this.kept (hb1.block _ (by simp))
    have q0 := hh.1 0 (by omega)
    have q1 := hh.1 1 (by omega)
    have q2 := hh.1 2 (by omega)
    have q3 := hh.1 3 (by omega)
    have q4 := hh.1 4 (by omega)
    have q5 := hh.1 5 (by omega)
    have q6 := hh.1 6 (by omega)
    have q7 := hh.1 7 (by omega)
    have q8 := hh.1 8 (by omega)
    have f0 := hh.2 0 (by omega)
    have f1 := hh.2 1 (by omega)
    have f2 := hh.2 2 (by omega)
    have f3 := hh.2 3 (by omega)
    have f4 := hh.2 4 (by omega)
    have f5 := hh.2 5 (by omega)
    have f6 := hh.2 6 (by omega)
    have f7 := hh.2 7 (by omega)
    have f8 := hh.2 8 (by omega)
    have HHh := hid hh
    clear hh
    go_wp2_with fail
    refine ret_hits (h := []) rfl rfl rfl (HHh.out.stored).1 ?_
    have hlen : isListedB l th = false := by
      have h1 := HL.out.1
      have h2 := HT.out.1
      simp [isListedB]
      intro h3; omega
    refine ⟨[], by rw [hlen]; rfl, (fun h => by rw [hlen] at h; cases h), ?_⟩
    exact below_store9 (w := w1) (h := []) ((((Below.refl _ _).alloc (Nat.le_refl _) _).alloc (by simp) _).trans (hb1.mono (by simp only [World.size_alloc]; omega))) (by omega)
end Go.Proofs.Ytlicijnaacdceaa

/- Share of the program. -/
namespace Go.Proofs.Ytlicijnaacdceaa
open Go.RowKit

/-- The error of Share. -/
def shareE (r cc : Int) (l : List Int) (sm : Int) (cs : List Cnt) (th : List Int) : Int := if faultL r cc l sm cs = 0 then (if isListedB l th = true then 0 else 2) else faultL r cc l sm cs
def shareV (r cc : Int) (l : List Int) (sm : Int) (cs : List Cnt) (th : List Int) : Int := if shareE r cc l sm cs th = 0 then shareL l th else 0

theorem fault0 {r cc : Int} {l : List Int} {sm : Int} {cs : List Cnt} (h : faultL r cc l sm cs = 0) : cs.length ≤ 6 ∧ isFieldB r cc l = true ∧ inB sm 0 9 = true ∧ cs.all (cntOkB l.length) = true ∧ manyL l ≤ 2000 := by
  unfold faultL at h
  split at h
  · cases h
  · rename_i h1
    split at h
    · cases h
    · rename_i h2
      split at h
      · cases h
      · rename_i h3
        split at h
        · cases h
        · rename_i h4
          simp only [Bool.and_eq_false_iff, not_or, Bool.not_eq_false] at h2 h3
          exact ⟨by omega, h2.1, h2.2, h3, by omega⟩

theorem listed_bd {l th : List Int} (h : isListedB l th = true) (hl : ∀ x ∈ l, 0 ≤ x ∧ x ≤ 9) : th.length = l.length ∧ ∀ x ∈ th, 0 ≤ x ∧ x ≤ 9 := by
  simp only [isListedB, Bool.and_eq_true, decide_eq_true_eq] at h
  obtain ⟨h1, h2⟩ := h
  refine ⟨h1, fun x hx => ?_⟩
  obtain ⟨i, hi, rfl⟩ := List.mem_iff_getElem.1 hx
  have h3 := (allR_iff _ _ _).1 h2 i (by omega) (by omega)
  have h4 := hl (l[i]?.getD 0) (getD_mem (by omega))
  simp only [inB, Bool.and_eq_true, decide_eq_true_eq] at h3
  have h5 : th[i]?.getD 0 = th[i] := by simp [hi]
  rw [h5] at h3
  omega

set_option maxRecDepth 40000 in
set_option maxHeartbeats 2000000 in
theorem Share_any (r cc : Int) (p : Option Addr) (n c : Nat) (l : List Int) (sm : Int) (q : Option Addr) (m d : Nat) (cs : List Cnt) (po : Option Addr) (no co : Nat) (th : List Int) (w : World) (hl : IntsAt w p n l) (hcs : CntsAt w q m cs) (ht : IntsAt w po no th) (hn : n ≤ 100) (hm : m ≤ 100) (hno : no ≤ 100) :
    Calls Try.prog 49 #[.agg #[.int .i64 r, .int .i64 cc, .slice p n c, .int .i64 sm, .slice q m d], .slice po no co] w fun e w' => e = .returned (.tuple #[.int .i64 (shareV r cc l sm cs th), .int .i64 (shareE r cc l sm cs th)]) ∧ Below w.heap.size w w' := by
  have HC := hid (fun W (hW : Below w.heap.size w W) => checkSurvey_any r cc p n c l sm q m d cs W (hl.below hW) (hcs.below hW) hn hm)
  have HE := hid (show shareE r cc l sm cs th = if faultL r cc l sm cs = 0 then (if isListedB l th = true then 0 else 2) else faultL r cc l sm cs from rfl)
  have HV := hid (show shareV r cc l sm cs th = if shareE r cc l sm cs th = 0 then shareL l th else 0 from rfl)
  have HL := hid hl
  have HT := hid ht
  clear hl hcs ht
  by_cases hf : faultL r cc l sm cs = 0
  · obtain ⟨_, g2, _, _, _⟩ := fault0 hf
    have g3 := field_facts g2
    have hln := HL.out.1
    have hn9 : n ≤ 9 := by omega
    have HLI := hid (fun W (hW : Below w.heap.size w W) => listed_any r cc p n c l sm q m d po no co th W (HL.out.below hW) hn9 (HT.out.below hW) (by omega))
    have HSB := hid g3.2.2.2.2.2.2.2
    rw [hf] at HC
    clear g2 g3 hln
    go_enter Try.func49, Try.ntmps49
    go_wp2_with fail
    refine (HC.out _ ?_).mono ?_
    · exact (Below.refl _ _).alloc (Nat.le_refl _) _
    rintro e w1 ⟨rfl, hb⟩
    have HB : Boxed1 w #[.int .i64 r, .int .i64 cc, .slice p n c, .int .i64 sm, .slice q m d] 36 w1 := hb.mono (by simp)
    have hs0 := HB.cell 0 (v := .int .i64 r) rfl
    have hs1 := HB.cell 1 (v := .int .i64 cc) rfl
    have hs2 := HB.cell 2 (v := .slice p n c) rfl
    have hs3 := HB.cell 3 (v := .int .i64 sm) rfl
    have hs4 := HB.cell 4 (v := .slice q m d) rfl
    clear hb
    go_wp2_with fail
    refine (HLI.out _ HB.below).mono ?_
    rintro e w2 ⟨h', rfl, hh', hb2⟩
    have HB2 := HB.step hb2
    have hs0 := HB2.cell 0 (v := .int .i64 r) rfl
    have hs1 := HB2.cell 1 (v := .int .i64 cc) rfl
    have hs2 := HB2.cell 2 (v := .slice p n c) rfl
    have HH := hid hh'
    clear hb2 hh' HB
    cases hL : isListedB l th
    · have HE2 : Hid (shareE r cc l sm cs th = 2) := by show _ = _; rw [HE.out, if_pos hf, hL]; rfl
      have HV2 : Hid (shareV r cc l sm cs th = 0) := by show _ = _; rw [HV.out, HE2.out]; rfl
      unfold hitsV
      go_wp2_with fail
      go_ret2
      exact ⟨by rw [HE2.out, HV2.out]; rfl, (HB2.alloc _).below⟩
    · have hh := HH.out hL
      subst hh
      have HE2 : Hid (shareE r cc l sm cs h' = 0) := by show _ = _; rw [HE.out, if_pos hf, hL]; rfl
      have HV2 : Hid (shareV r cc l sm cs h' = shareL l h') := by show _ = _; rw [HV.out, HE2.out]; rfl
      have hbd := listed_bd hL HSB.out
      have HSH := hid (fun W (hW : Below w.heap.size w W) => fieldShare_any r cc p n c l h' W (HL.out.below hW) (by rw [hbd.1]; exact HL.out.1) hn9 HSB.out hbd.2)
      unfold hitsV at HSH
      unfold hitsV
      clear hbd
      obtain ⟨W3, hW3⟩ : ∃ W3, w2.alloc (.cells #[.int .i64 (h'[0]?.getD 0), .int .i64 (h'[1]?.getD 0), .int .i64 (h'[2]?.getD 0), .int .i64 (h'[3]?.getD 0), .int .i64 (h'[4]?.getD 0), .int .i64 (h'[5]?.getD 0), .int .i64 (h'[6]?.getD 0), .int .i64 (h'[7]?.getD 0), .int .i64 (h'[8]?.getD 0)] 116) = W3 := ⟨_, rfl⟩
      have HB3 : Boxed1 w #[.int .i64 r, .int .i64 cc, .slice p n c, .int .i64 sm, .slice q m d] 36 W3 := by rw [← hW3]; exact HB2.alloc _
      have hs0 := HB3.cell 0 (v := .int .i64 r) rfl
      have hs1 := HB3.cell 1 (v := .int .i64 cc) rfl
      have hs2 := HB3.cell 2 (v := .slice p n c) rfl
      have hq : HitsAt W3 w2.heap.size h' := by rw [← hW3]; exact hitsAt_box w2 h' 116
      have q0 := hq 0 (by omega)
      have q1 := hq 1 (by omega)
      have q2 := hq 2 (by omega)
      have q3 := hq 3 (by omega)
      have q4 := hq 4 (by omega)
      have q5 := hq 5 (by omega)
      have q6 := hq 6 (by omega)
      have q7 := hq 7 (by omega)
      have q8 := hq 8 (by omega)
      clear hq
      go_wp2_with fail
      refine (HSH.out _ HB3.below).mono ?_
      rintro e w3 ⟨rfl, hb3⟩
      go_wp2_with fail
      go_ret2
      exact ⟨by rw [HE2.out, HV2.out]; rfl, (HB3.step hb3).below⟩
  · have HE2 : Hid (shareE r cc l sm cs th = faultL r cc l sm cs) := by show _ = _; rw [HE.out, if_neg hf]
    have HV2 : Hid (shareV r cc l sm cs th = 0) := by show _ = _; rw [HV.out, HE2.out, if_neg hf]
    generalize faultL r cc l sm cs = fl at *
    have hfb : (fl == 0) = false := by simp [hf]
    go_enter Try.func49, Try.ntmps49
    go_wp2_with fail
    refine (HC.out _ ?_).mono ?_
    · exact (Below.refl _ _).alloc (Nat.le_refl _) _
    rintro e w1 ⟨rfl, hb⟩
    go_wp2_with fail
    go_ret2
    exact ⟨by rw [HE2.out, HV2.out]; rfl, Boxed1.below (cs := #[.int .i64 r, .int .i64 cc, .slice p n c, .int .i64 sm, .slice q m d]) (T := 36) (hb.mono (by simp))⟩
end Go.Proofs.Ytlicijnaacdceaa

/- The error of a question for a part. -/
namespace Go.Proofs.Ytlicijnaacdceaa
open Go.RowKit

/-- The error of a question for a part. -/
def partE (r cc : Int) (l : List Int) (sm : Int) (cs : List Cnt) (part : Int) : Int := if faultL r cc l sm cs = 0 then (if inB part 0 100 = true then 0 else 2) else faultL r cc l sm cs

set_option maxHeartbeats 2000000 in
theorem part_any (r cc : Int) (p : Option Addr) (n c : Nat) (l : List Int) (sm : Int) (q : Option Addr) (m d : Nat) (cs : List Cnt) (part : Int) (w : World) (hl : IntsAt w p n l) (hcs : CntsAt w q m cs) (hn : n ≤ 100) (hm : m ≤ 100) :
    Calls Try.prog 69 #[.agg #[.int .i64 r, .int .i64 cc, .slice p n c, .int .i64 sm, .slice q m d], .int .i64 part] w fun e w' => e = .returned (.int .i64 (partE r cc l sm cs part)) ∧ Below w.heap.size w w' := by
  have HC := hid (fun W (hW : Below w.heap.size w W) => checkSurvey_any r cc p n c l sm q m d cs W (hl.below hW) (hcs.below hW) hn hm)
  have HE := hid (show partE r cc l sm cs part = if faultL r cc l sm cs = 0 then (if inB part 0 100 = true then 0 else 2) else faultL r cc l sm cs from rfl)
  clear hl hcs
  by_cases hf : faultL r cc l sm cs = 0
  · rw [hf] at HC
    go_enter Try.func69, Try.ntmps69
    go_wp2_with fail
    refine (HC.out _ ?_).mono ?_
    · exact (Below.refl _ _).alloc (Nat.le_refl _) _
    rintro e w1 ⟨rfl, hb⟩
    cases hp : inB part 0 100
    · go_wp2_with (go_at_call 90; refine (within_any _ _ _ _).mono ?_; rintro e w' ⟨rfl, rfl⟩)
      go_ret
      exact ⟨ret_int (by rw [HE.out, if_pos hf, hp]; rfl), Boxed1.below (cs := #[.int .i64 r, .int .i64 cc, .slice p n c, .int .i64 sm, .slice q m d]) (T := 36) (hb.mono (by simp))⟩
    · go_wp2_with (go_at_call 90; refine (within_any _ _ _ _).mono ?_; rintro e w' ⟨rfl, rfl⟩)
      go_ret
      exact ⟨ret_int (by rw [HE.out, if_pos hf, hp]; rfl), Boxed1.below (cs := #[.int .i64 r, .int .i64 cc, .slice p n c, .int .i64 sm, .slice q m d]) (T := 36) (hb.mono (by simp))⟩
  · have HE2 : Hid (partE r cc l sm cs part = faultL r cc l sm cs) := by show _ = _; rw [HE.out, if_neg hf]
    generalize faultL r cc l sm cs = fl at *
    have hfb : (fl == 0) = false := by simp [hf]
    go_enter Try.func69, Try.ntmps69
    go_wp2_with fail
    refine (HC.out _ ?_).mono ?_
    · exact (Below.refl _ _).alloc (Nat.le_refl _) _
    rintro e w1 ⟨rfl, hb⟩
    go_wp2_with fail
    go_ret
    exact ⟨ret_int HE2.out.symm, Boxed1.below (cs := #[.int .i64 r, .int .i64 cc, .slice p n c, .int .i64 sm, .slice q m d]) (T := 36) (hb.mono (by simp))⟩
end Go.Proofs.Ytlicijnaacdceaa
