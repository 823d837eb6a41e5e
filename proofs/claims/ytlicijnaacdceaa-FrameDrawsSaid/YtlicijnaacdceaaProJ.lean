/- The iterator over the truths: by induction on the places that are left. -/
import Derived.Test.YtlicijnaacdceaaProI
namespace Go.Proofs.Ytlicijnaacdceaa
open Go.RowKit

theorem getD_snoc0 (l : List Int) (i : Nat) : (l ++ [0])[i]?.getD 0 = l[i]?.getD 0 := by
  by_cases h : i < l.length
  · rw [List.getElem?_append_left h]
  · rw [List.getElem?_append_right (by omega), List.getElem?_eq_none (l := l) (by omega)]
    by_cases h2 : i - l.length = 0
    · rw [h2]; rfl
    · rw [List.getElem?_eq_none (by simp; omega)]

theorem ItBox.zero {W : World} {l B bv : Nat} {h : List Int} : ItBox W l B bv (h ++ [0]) ↔ ItBox W l B bv h := by
  constructor
  · exact fun hh => ⟨hh.yield, ⟨fun i hi => by rw [← getD_snoc0]; exact hh.hits.1 i hi, hh.hits.2⟩, hh.choose⟩
  · exact fun hh => ⟨hh.yield, ⟨fun i hi => by rw [getD_snoc0]; exact hh.hits.1 i hi, hh.hits.2⟩, hh.choose⟩

theorem ItBox.set {W : World} {l B bv : Nat} {h : List Int} {y : Int} (hh : ItBox W l B bv (h ++ [y])) (hl : h.length < 9) (x : Int) : ItBox (W.setCell ⟨B + 1, h.length, none⟩ (.int .i64 x)) l B bv (h ++ [x]) := by
  have ho : ∀ k, k ≠ B + 1 → (W.setCell ⟨B + 1, h.length, none⟩ (.int .i64 x)).heap[k]? = W.heap[k]? := fun k hk => Below.heap_setCell _ _ _ _ hk
  refine ⟨(World.cell?_of_block (a := ⟨B, 0, none⟩) (ho _ (by simp))).trans hh.yield, ⟨fun i hi => ?_, fun i hi => by rw [World.frozen?_setCell]; exact hh.hits.2 i hi⟩, (World.cell?_of_block (a := ⟨B + 2, 0, none⟩) (ho _ (by simp))).trans hh.choose⟩
  by_cases e : i = h.length
  · subst e
    rw [World.cell?_setCell_same' _ _ _ (by rw [hh.hits.1 _ hl]; rfl)]
    simp
  · rw [World.cell?_setCell_other _ _ _ _ (by first | (simp; done) | (simp; omega) | (simp; exact fun h => e h.symm)), hh.hits.1 i hi]
    congr 2
    by_cases h2 : i < h.length
    · rw [List.getElem?_append_left h2, List.getElem?_append_left h2]
    · rw [List.getElem?_eq_none (by simp; omega), List.getElem?_eq_none (by simp; omega)]

/-- A block of cells is no map. -/
theorem MapIs.ne {W : World} {k bm nn : Nat} {M : Value → Option Bool} (h : MapIs W k bm nn M) {a : Addr} {v : Value} (hc : W.cell? a = some v) : a.block ≠ bm := by
  intro e
  obtain ⟨es, clock, hb, _⟩ := h
  rw [← e] at hb
  simp [World.cell?, hb] at hc

theorem SurvAt.known' {W W' : World} {b bv bm : Nat} {r cc : Int} {p : Option Addr} {n c : Nat} {l : List Int} {sm : Int} {q : Option Addr} {m d : Nat} {cs : List Cnt} {po : Option Addr} {no co : Nat} {outl : List Int} {nn nn' : Nat} {M : Value → Option Bool}
    (h : SurvAt W b bv bm r cc p n c l sm q m d cs po no co outl nn) (hM : MapIs W' 145 bm nn' M) (hK : Knows cs outl M) (hk : ∀ i, i < W.heap.size → i ≠ bm → W'.heap[i]? = W.heap[i]?) (hs : W.heap.size ≤ W'.heap.size) : SurvAt W' b bv bm r cc p n c l sm q m d cs po no co outl nn' := by
  obtain ⟨M0, hM0, _⟩ := h.known
  refine ⟨h.work.kept (hk b h.work.lt (hM0.ne (a := ⟨b, 0, none⟩) h.work.c0)), (World.cell?_of_block (a := ⟨bv, 0, none⟩) (hk bv (World.block_lt_of_cell? _ _ h.box) (hM0.ne (a := ⟨bv, 0, none⟩) h.box))).trans h.box,
    h.stems.kept fun a ha h0 hl => hk _ hl ?_, h.cnts.kept (fun a ha h0 hl => hk _ hl ?_) hs, h.outs.kept fun a ha h0 hl => hk _ hl ?_, M, hM, hK⟩
  · obtain ⟨b1, o1, rfl, _, hc⟩ := h.stems.at h0
    cases ha
    exact hM0.ne hc
  · obtain ⟨x, _, b1, o1, rfl, _, hc, _⟩ := h.cnts.at h0
    cases ha
    exact hM0.ne hc
  · obtain ⟨b1, o1, rfl, _, hc⟩ := h.outs.at h0
    cases ha
    exact hM0.ne hc

theorem flat_at {α : Type} (f : Nat → List α) : ∀ (N i : Nat), i < N → ∃ t, (List.range N).flatMap f = (List.range i).flatMap f ++ f i ++ t
  | 0, _, h => by omega
  | N + 1, i, h => by
    by_cases e : i = N
    · subst e; exact ⟨[], by rw [List.range_succ]; simp⟩
    · obtain ⟨t, ht⟩ := flat_at f N i (by omega)
      exact ⟨t ++ f N, by rw [List.range_succ]; simp [ht]⟩
theorem flat_succ {α : Type} (f : Nat → List α) (i : Nat) : (List.range (i + 1)).flatMap f = (List.range i).flatMap f ++ f i := by rw [List.range_succ]; simp

/-- What comes of a choice. -/
def ChoosePost (J Jx : List (List Int) → World → Prop) (all now : List (List Int)) (S : World → Prop) : Ending → World → Prop := fun e W' =>
  (e = .returned (.bool true) ∧ J now W' ∧ S W') ∨ (e = .returned (.bool false) ∧ ∃ q t, q ++ t = all ∧ Jx q W')

section
variable (l0 B b bv bm : Nat) (rr cc : Int) (p : Option Addr) (n c : Nat) (l : List Int) (sm : Int) (q : Option Addr) (m d : Nat) (cs : List Cnt) (po : Option Addr) (no co : Nat) (outl : List Int)
  (J Jx : List (List Int) → World → Prop) (C : Nat → Prop) (all : List (List Int))

set_option maxRecDepth 40000 in
set_option maxHeartbeats 8000000 in
theorem choose_any (hl : n = l.length) (hn : n ≤ 9) (hm : m ≤ 1000000) (hno : no ≤ 1000000) (hlb : ∀ x ∈ l, 0 ≤ x ∧ x ≤ 9) (hc1 : 1 ≤ cc) (hc4 : cc ≤ 4) (hs0 : 0 ≤ sm) (hs9 : sm ≤ 9) (hRB : ∀ k, RdOf b bv bm p n q m po no k → k < B)
    (hJ : ∀ s W1 W2, J s W1 → Near (fun k => k = bm ∨ B ≤ k) W1 W2 → J s W2) (hC : ∀ k, C k → k < B ∧ ¬ RdOf b bv bm p n q m po no k)
    (hY : ∀ done x rest W1, all = done ++ x :: rest → J done W1 → YieldAt Fence.wide 0 Try.prog l0 #[hitsV x] W1 fun e W' => (e = .returned (.bool true) ∧ J (done ++ [x]) W' ∧ Near C W1 W') ∨ (e = .returned (.bool false) ∧ Jx (done ++ [x]) W')) :
    ∀ (rest : List Int) (k : Nat) (pre : List Int) (nn : Nat) (done tail : List (List Int)) (W : World), l.drop k = rest → k ≤ n → pre.length = k → (∀ x ∈ pre, 0 ≤ x ∧ x ≤ 9) → nn + costP rest < maxLen →
      SurvAt W b bv bm rr cc p n c l sm q m d cs po no co outl nn → ItBox W l0 B bv pre → all = done ++ genP (okP cs outl cc sm) rest k pre ++ tail → J done W →
      Calls Try.prog 96 #[.int .i64 k, .pointer (some ⟨bv, 0, none⟩), .pointer (some ⟨B, 0, none⟩), .pointer (some ⟨B + 1, 0, none⟩), .pointer (some ⟨B + 2, 0, none⟩)] W
        (ChoosePost J Jx all (done ++ genP (okP cs outl cc sm) rest k pre) fun W' => SurvAt W' b bv bm rr cc p n c l sm q m d cs po no co outl (nn + costP rest) ∧ ItBox W' l0 B bv pre) := by
  intro rest
  induction rest with
  | nil =>
    intro k pre nn done tail W hd hk hpl hpb hnn hS hI hall hj
    have hkn : k = n := by
      have := congrArg List.length hd
      simp at this; omega
    subst hkn
    refine choose_base l0 B b bv bm rr cc p k c l sm q m d cs po no co outl nn pre W hS hI hn _ ?_ ?_
    · intro W1 hb1
      have hj1 := hJ _ _ _ hj (Near.of_below hb1 (fun i _ hi => by have := hI.lt; omega))
      have hS1 := hS.below hb1
      have hI1 := hI.kept (W' := W1) (fun i _ hi => hb1.block i (by have := hI.lt; omega))
      refine (hY done pre tail W1 (by rw [hall]; simp [genP]) hj1).mono ?_
      rintro e W' (⟨rfl, hj2, hn2⟩ | ⟨rfl, hx⟩)
      · refine .inl ⟨rfl, hj2, ?_, ?_⟩
        · exact hS1.kept (fun i hi hlt => hn2.block i hlt (fun hc => (hC i hc).2 hi)) hn2.size
        · exact hI1.kept (fun i h1 h2 => hn2.block i (by have := hI1.lt; omega) (fun hc => by have := (hC i hc).1; omega))
      · exact .inr ⟨rfl, done ++ [pre], tail, by rw [hall]; simp [genP], hx⟩
    · rintro e W1 (⟨rfl, _⟩ | ⟨rfl, _⟩)
      · exact .inl rfl
      · exact .inr rfl
  | cons s r ih =>
    intro k pre nn done tail W hd hk hpl hpb hnn hS hI hall hj
    have hlen := congrArg List.length hd
    simp only [List.length_drop, List.length_cons] at hlen
    have hkn : k < n := by omega
    have hs : l[k]?.getD 0 = s := by
      have := List.getElem?_drop (xs := l) (i := k) (j := 0)
      rw [hd] at this
      simp at this
      rw [← this]; rfl
    have hdr : l.drop (k + 1) = r := by rw [← List.drop_drop, hd]; rfl
    have hsb := hlb s (by rw [← hs]; exact getD_mem (by omega))
    obtain ⟨sN, rfl⟩ : ∃ sN : Nat, s = sN := ⟨s.toNat, by omega⟩
    obtain ⟨f, hf⟩ : ∃ f : Nat → List (List Int), f = fun (i : Nat) => if okP cs outl cc sm k (i : Int) pre = true then genP (okP cs outl cc sm) r (k + 1) (pre ++ [(i : Int)]) else [] := ⟨_, rfl⟩
    have HGEN : Hid (genP (okP cs outl cc sm) ((sN : Int) :: r) k pre = (List.range (sN + 1)).flatMap f) := by
      show _ = _
      rw [genP, hf]
      rfl
    have HF := hid hf
    have HCOST : Hid (costP ((sN : Int) :: r) = (sN + 1) * (1 + costP r)) := by
      show _ = _
      rw [costP]; rfl
    have HALL := hid hall
    have HIH := hid ih
    have HJ := hid hJ
    have HLB := hid hlb
    have HPB := hid hpb
    have HRB := hid hRB
    have HDR := hid hdr
    have HPL := hid hpl
    have HS := hid hS
    have HI := hid hI
    have hv := hS.box
    have hc0 := hS.work.c0
    have hc1' := hS.work.c1
    have hc2 := hS.work.c2
    have HNN := hid hnn
    have hknb : ((k : Int) == (n : Int)) = false := by simp; omega
    have HLN := hid hl
    clear hf ih hJ hlb hpb hRB hall hdr hnn hd hlen hS hI hY hl
    go_enter Try.func96, Try.ntmps96
    go_wp2_with fail
    refine (places_any _ _ _ _ _ _).mono ?_
    rintro e w1 ⟨rfl, hb1⟩
    clear hv hc0 hc1' hc2
    have HS1 := hid (HS.out.below hb1)
    have HI1 := hid (HI.out.kept (W' := w1) (fun i _ hi => hb1.block i (by have := HI.out.lt; omega)))
    have hj1 := HJ.out _ _ _ hj (Near.of_below hb1 (fun i _ hi => by have := HI.out.lt; omega))
    have hv := HS1.out.box
    have hc0 := HS1.out.work.c0
    have hc1' := HS1.out.work.c1
    have hc2 := HS1.out.work.c2
    have HJ1 := hid hj1
    clear hb1 hj hj1 HS HI
    clear W
    obtain ⟨b1, o1, rfl, hlt1, hcell⟩ := HS1.out.stems.at hkn
    rw [hs] at hcell
    have hsw : (sN : Int) + 1 ≤ 10 := by omega
    clear hs
    go_wp2_with fail
    go_loopw [29] (fun i wr => ∃ (j : Nat) (y : Int), j ≤ sN + 1 ∧ i = .int .i64 j ∧ J (done ++ (List.range j).flatMap f) wr ∧ SurvAt wr b bv bm rr cc (some ⟨b1, o1, none⟩) n c l sm q m d cs po no co outl (nn + j * (1 + costP r)) ∧ ItBox wr l0 B bv (pre ++ [y])) (fun i _ => 10 - (intOf i).toNat)
    case atStart => exact ⟨0, 0, by omega, rfl, by simpa using HJ1.out, by simpa using HS1.out, ItBox.zero.2 HI1.out⟩
    case round =>
      clear HJ1 HS1 HI1 hv hc0 hc1' hc2
      obtain ⟨j, y, hj, rfl, hjj, hS, hI⟩ := hrel
      by_cases hlt : j < sN + 1
      · have hq9 : pre.length < 9 := by have := HPL.out; omega
        have hset := hI.set hq9 (j : Int)
        rw [HPL.out] at hset
        obtain ⟨W1, hW1⟩ : ∃ W1, wr.setCell ⟨B + 1, k, none⟩ (.int .i64 j) = W1 := ⟨_, rfl⟩
        have hfz := hI.hits.2 k (by omega)
        have hcl := hI.hits.1 k (by omega)
        have hn1 : Near (fun i => i = bm ∨ B ≤ i) wr W1 := by rw [← hW1]; exact (Near.refl _ _).setCell (fun _ => .inr (by show B ≤ B + 1; omega)) _
        rw [hW1] at hset
        have hBlt := hI.lt
        have HS1 : Hid (SurvAt W1 b bv bm rr cc (some ⟨b1, o1, none⟩) n c l sm q m d cs po no co outl (nn + j * (1 + costP r))) := by
          refine hS.kept (fun i hi _ => ?_) hn1.size
          rw [← hW1]
          exact Below.heap_setCell _ _ _ _ (by have := HRB.out i hi; show i ≠ B + 1; omega)
        have HI1 := hid hset
        have HJ1 := hid (HJ.out _ _ _ hjj hn1)
        have hv := HS1.out.box
        clear hS hI hset hjj hn1
        have hjk : (j : Int) ≤ 9 := by omega
        go_wp2_with fail
        obtain ⟨M, hM, hKn⟩ := HS1.out.known
        have hcost1 : nn + j * (1 + costP r) < maxLen := by
          have := HNN.out
          rw [HCOST.out] at this
          have h2 : j * (1 + costP r) ≤ (sN + 1) * (1 + costP r) := Nat.mul_le_mul_right _ (by omega)
          omega
        refine (right_any b rr cc _ n c sm q m d cs po no co outl bm _ M k j W1 HS1.out.work HS1.out.cnts HS1.out.outs hm hno hM hKn hcost1 (by omega) (by omega)).mono ?_
        rintro e W2 ⟨rfl, M2, hM2, hKn2, hn2⟩
        have HS2 : Hid (SurvAt W2 b bv bm rr cc (some ⟨b1, o1, none⟩) n c l sm q m d cs po no co outl (nn + (j * (1 + costP r) + 1))) := HS1.out.known' hM2 hKn2 (fun i h1 h2 => hn2.block i h1 h2) hn2.size
        have hbB := HRB.out bm (.inr (.inr (.inl rfl)))
        have HI2 := hid (HI1.out.kept (W' := W2) (fun i h1 h2 => hn2.block i (by have := HI1.out.lt; omega) (by omega)))
        have HJ2 : Hid (J (done ++ (List.range j).flatMap f) W2) := HJ.out _ _ _ HJ1.out (hn2.mono (fun i _ e => .inl e))
        clear hM hKn hM2 hKn2 hn2 hv hcost1 HS1 HI1 HJ1
        have HMORE : Hid (∀ W' x, x ≤ j * (1 + costP r) + (1 + costP r) → SurvAt W' b bv bm rr cc (some ⟨b1, o1, none⟩) n c l sm q m d cs po no co outl (nn + x) → SurvAt W' b bv bm rr cc (some ⟨b1, o1, none⟩) n c l sm q m d cs po no co outl (nn + (j + 1) * (1 + costP r))) := by
          intro W' x hx hS
          obtain ⟨M, hM, hK⟩ := hS.known
          exact ⟨hS.work, hS.box, hS.stems, hS.cnts, hS.outs, M, hM.more (by rw [Nat.add_mul, Nat.one_mul]; omega), hK⟩
        cases hrt : rightB cs outl k j
        · have HFJ : Hid (f j = []) := by show _ = _; rw [HF.out]; simp [okP, hrt]
          go_wp2_with fail
          go_roundw
          case rel => exact ⟨j + 1, j, by omega, by go_num, by rw [flat_succ, HFJ.out, List.append_nil]; exact HJ2.out, HMORE.out _ _ (by omega) HS2.out, HI2.out⟩
          case measure => simp [intOf]; omega
        · have hsm := smooth_any b k (pre ++ [(j : Int)]) cc sm W2 HS2.out.work.c1 HS2.out.work.c3 (by omega) (fun x hx => by
            rcases List.mem_append.1 hx with h | h
            · exact HPB.out x h
            · simp at h; omega) hc1 hc4 hs0 hs9
          have hv := HS2.out.box
          have hhits := HI2.out.hits.1
          obtain ⟨hh, hhe⟩ : ∃ hh, hh = pre ++ [(j : Int)] := ⟨_, rfl⟩
          rw [← hhe] at hsm hhits
          unfold hitsV at hsm
          have HSM := hid hsm
          have HHE := hid hhe
          have q0 := hhits 0 (by omega)
          have q1 := hhits 1 (by omega)
          have q2 := hhits 2 (by omega)
          have q3 := hhits 3 (by omega)
          have q4 := hhits 4 (by omega)
          have q5 := hhits 5 (by omega)
          have q6 := hhits 6 (by omega)
          have q7 := hhits 7 (by omega)
          have q8 := hhits 8 (by omega)
          clear hsm hhits hhe
          go_wp2_with fail
          refine HSM.out.mono ?_
          rintro e W3 ⟨rfl, hb3⟩
          clear q0 q1 q2 q3 q4 q5 q6 q7 q8 hv HSM
          rw [HHE.out]
          clear HHE
          have HS3 := hid (HS2.out.below hb3)
          have HI3 := hid (HI2.out.kept (W' := W3) (fun i h1 h2 => hb3.block i (by have := HI2.out.lt; omega)))
          have HJ3 : Hid (J (done ++ (List.range j).flatMap f) W3) := HJ.out _ _ _ HJ2.out (Near.of_below hb3 (fun i h1 h2 => by omega))
          clear hb3 HS2 HI2 HJ2
          cases hsm : smoothB cc sm (pre ++ [(j : Int)]) k
          · have HFJ : Hid (f j = []) := by show _ = _; rw [HF.out]; simp [okP, hrt, hsm]
            go_wp2_with fail
            go_roundw
            case rel => exact ⟨j + 1, j, by omega, by go_num, by rw [flat_succ, HFJ.out, List.append_nil]; exact HJ3.out, HMORE.out _ _ (by omega) HS3.out, HI3.out⟩
            case measure => simp [intOf]; omega
          · have HFJ : Hid (f j = genP (okP cs outl cc sm) r (k + 1) (pre ++ [(j : Int)])) := by show _ = _; rw [HF.out]; simp [okP, hrt, hsm]
            obtain ⟨t, ht⟩ := flat_at f (sN + 1) j hlt
            have hch := HI3.out.choose
            have hcost2 : nn + (j * (1 + costP r) + 1) + costP r < maxLen := by
              have := HNN.out
              rw [HCOST.out] at this
              have h2 : (j + 1) * (1 + costP r) ≤ (sN + 1) * (1 + costP r) := Nat.mul_le_mul_right _ (by omega)
              rw [Nat.add_mul, Nat.one_mul] at h2
              omega
            have HCALL := hid (HIH.out (k + 1) (pre ++ [(j : Int)]) (nn + (j * (1 + costP r) + 1)) (done ++ (List.range j).flatMap f) (t ++ tail) W3 HDR.out (by omega) (by rw [List.length_append, HPL.out]; rfl)
              (fun x hx => by
                rcases List.mem_append.1 hx with h | h
                · exact HPB.out x h
                · simp at h; omega) hcost2 HS3.out HI3.out (by rw [HALL.out, HGEN.out, ht, HFJ.out]; simp) HJ3.out)
            clear hcost2 ht
            go_wp2_with fail
            rw [show (k : Int) + 1 = ((k + 1 : Nat) : Int) by omega]
            refine HCALL.out.mono ?_
            rintro e W4 (⟨rfl, hj4, hS4, hI4⟩ | ⟨rfl, qq, tt, hqt, hx4⟩)
            · have HJ4 := hid hj4
              have HS4 := hid hS4
              have HI4 := hid hI4
              clear hj4 hS4 hI4 hch
              go_wp2_with fail
              go_roundw
              case rel => exact ⟨j + 1, j, by omega, by go_num, by rw [flat_succ, HFJ.out, ← List.append_assoc]; exact HJ4.out, HMORE.out _ (j * (1 + costP r) + 1 + costP r) (by omega) (by rw [← Nat.add_assoc]; exact HS4.out), HI4.out⟩
              case measure => simp [intOf]; omega
            · clear hch
              have HX := hid hx4
              have HQT := hid hqt
              clear hx4 hqt
              go_wp2_with fail
              go_ret
              exact .inr ⟨rfl, qq, tt, HQT.out, HX.out⟩
      · have hje : j = sN + 1 := by omega
        subst hje
        have hq9 : pre.length < 9 := by have := HPL.out; omega
        have hset := hI.set hq9 0
        rw [HPL.out] at hset
        obtain ⟨W1, hW1⟩ : ∃ W1, wr.setCell ⟨B + 1, k, none⟩ (.int .i64 0) = W1 := ⟨_, rfl⟩
        have hfz := hI.hits.2 k (by omega)
        have hcl := hI.hits.1 k (by omega)
        have hn1 : Near (fun i => i = bm ∨ B ≤ i) wr W1 := by rw [← hW1]; exact (Near.refl _ _).setCell (fun _ => .inr (by show B ≤ B + 1; omega)) _
        rw [hW1] at hset
        have HS1 : Hid (SurvAt W1 b bv bm rr cc (some ⟨b1, o1, none⟩) n c l sm q m d cs po no co outl (nn + (sN + 1) * (1 + costP r))) := by
          refine hS.kept (fun i hi _ => ?_) hn1.size
          rw [← hW1]
          exact Below.heap_setCell _ _ _ _ (by have := HRB.out i hi; show i ≠ B + 1; omega)
        have HI1 := hid (ItBox.zero.1 hset)
        have HJ1 := hid (HJ.out _ _ _ hjj hn1)
        clear hS hI hset hjj hn1
        go_wp2_with fail
        go_ret
        exact .inl ⟨rfl, by rw [HGEN.out]; exact HJ1.out, by rw [HCOST.out]; exact HS1.out, HI1.out⟩
end
end Go.Proofs.Ytlicijnaacdceaa
