/- The iterator over truths, for rounds that write blocks of their own -/
import Derived.Test.YtlicijnaacdceaaProK
import Derived.Test.YtlicijnaacdceaaRanC
/- choose, where a round may write blocks of its own. -/
namespace Go.Proofs.Ytlicijnaacdceaa
open Go.RowKit

section
variable (l0 B b bv bm : Nat) (rr cc : Int) (p : Option Addr) (n c : Nat) (l : List Int) (sm : Int) (q : Option Addr) (m d : Nat) (cs : List Cnt) (po : Option Addr) (no co : Nat) (outl : List Int)
  (J Jx : List (List Int) → World → Prop) (C : Nat → Prop) (all : List (List Int))

set_option maxRecDepth 40000 in
set_option maxHeartbeats 8000000 in
theorem choose2_any (hl : n = l.length) (hn : n ≤ 9) (hm : m ≤ 1000000) (hno : no ≤ 1000000) (hlb : ∀ x ∈ l, 0 ≤ x ∧ x ≤ 9) (hc1 : 1 ≤ cc) (hc4 : cc ≤ 4) (hs0 : 0 ≤ sm) (hs9 : sm ≤ 9) (hRB : ∀ k, RdOf b bv bm p n q m po no k → k < B)
    (hJ : ∀ s W1 W2, J s W1 → Near (fun k => k = bm ∨ (B ≤ k ∧ k < B + 3)) W1 W2 → J s W2) (hC : ∀ k, C k → (k < B ∨ B + 3 ≤ k) ∧ ¬ RdOf b bv bm p n q m po no k)
    (hY : ∀ done x rest W1, all = done ++ x :: rest → B + 3 ≤ W1.heap.size → J done W1 → YieldAt Fence.wide 0 Try.prog l0 #[hitsV x] W1 fun e W' => (e = .returned (.bool true) ∧ J (done ++ [x]) W' ∧ Near C W1 W') ∨ (e = .returned (.bool false) ∧ Jx (done ++ [x]) W')) :
    ∀ (rest : List Int) (k : Nat) (pre : List Int) (nn : Nat) (done tail : List (List Int)) (W : World), l.drop k = rest → k ≤ n → pre.length = k → (∀ x ∈ pre, 0 ≤ x ∧ x ≤ 9) → nn + costP rest < maxLen →
      SurvAt W b bv bm rr cc p n c l sm q m d cs po no co outl nn → ItBox W l0 B bv pre → all = done ++ genP (okP cs outl cc sm) rest k pre ++ tail → J done W →
      Calls Try.prog 96 #[.int .i64 k, .pointer (some ⟨bv, 0, none⟩), .pointer (some ⟨B, 0, none⟩), .pointer (some ⟨B + 1, 0, none⟩), .pointer (some ⟨B + 2, 0, none⟩)] W
        (ChoosePost J Jx all (done ++ genP (okP cs outl cc sm) rest k pre) fun W' => SurvAt W' b bv bm rr cc p n c l sm q m d cs po no co outl (nn + costP rest) ∧ ItBox W' l0 B bv pre) := by
  intro rest
  induction rest with
  | nil =>
    intro k pre nn done tail W hd hk hpl hpb hnn hS hI hall hj
    have hkn : k = n := by
      have := congrArg List.length hd
      simp at this; omega
    subst hkn
    refine choose_base l0 B b bv bm rr cc p k c l sm q m d cs po no co outl nn pre W hS hI hn _ ?_ ?_
    · intro W1 hb1
      have hj1 := hJ _ _ _ hj (Near.of_below hb1 (fun i _ hi => by have := hI.lt; omega))
      have hS1 := hS.below hb1
      have hI1 := hI.kept (W' := W1) (fun i _ hi => hb1.block i (by have := hI.lt; omega))
      refine (hY done pre tail W1 (by rw [hall]; simp [genP]) (by have := hI1.lt; omega) hj1).mono ?_
      rintro e W' (⟨rfl, hj2, hn2⟩ | ⟨rfl, hx⟩)
      · refine .inl ⟨rfl, hj2, ?_, ?_⟩
        · exact hS1.kept (fun i hi hlt => hn2.block i hlt (fun hc => (hC i hc).2 hi)) hn2.size
        · exact hI1.kept (fun i h1 h2 => hn2.block i (by have := hI1.lt; omega) (fun hc => by have := (hC i hc).1; omega))
      · exact .inr ⟨rfl, done ++ [pre], tail, by rw [hall]; simp [genP], hx⟩
    · rintro e W1 (⟨rfl, _⟩ | ⟨rfl, _⟩)
      · exact .inl rfl
      · exact .inr rfl
  | cons s r ih =>
    intro k pre nn done tail W hd hk hpl hpb hnn hS hI hall hj
    have hlen := congrArg List.length hd
    simp only [List.length_drop, List.length_cons] at hlen
    have hkn : k < n := by omega
    have hs : l[k]?.getD 0 = s := by
      have := List.getElem?_drop (xs := l) (i := k) (j := 0)
      rw [hd] at this
      simp at this
      rw [← this]; rfl
    have hdr : l.drop (k + 1) = r := by rw [← List.drop_drop, hd]; rfl
    have hsb := hlb s (by rw [← hs]; exact getD_mem (by omega))
    obtain ⟨sN, rfl⟩ : ∃ sN : Nat, s = sN := ⟨s.toNat, by omega⟩
    obtain ⟨f, hf⟩ : ∃ f : Nat → List (List Int), f = fun (i : Nat) => if okP cs outl cc sm k (i : Int) pre = true then genP (okP cs outl cc sm) r (k + 1) (pre ++ [(i : Int)]) else [] := ⟨_, rfl⟩
    have HGEN : Hid (genP (okP cs outl cc sm) ((sN : Int) :: r) k pre = (List.range (sN + 1)).flatMap f) := by
      show _ = _
      rw [genP, hf]
      rfl
    have HF := hid hf
    have HCOST : Hid (costP ((sN : Int) :: r) = (sN + 1) * (1 + costP r)) := by
      show _ = _
      rw [costP]; rfl
    have HALL := hid hall
    have HIH := hid ih
    have HJ := hid hJ
    have HLB := hid hlb
    have HPB := hid hpb
    have HRB := hid hRB
    have HDR := hid hdr
    have HPL := hid hpl
    have HS := hid hS
    have HI := hid hI
    have hv := hS.box
    have hc0 := hS.work.c0
    have hc1' := hS.work.c1
    have hc2 := hS.work.c2
    have HNN := hid hnn
    have hknb : ((k : Int) == (n : Int)) = false := by simp; omega
    have HLN := hid hl
    clear hf ih hJ hlb hpb hRB hall hdr hnn hd hlen hS hI hY hl
    go_enter Try.func96, Try.ntmps96
    go_wp2_with fail
    refine (places_any _ _ _ _ _ _).mono ?_
    rintro e w1 ⟨rfl, hb1⟩
    clear hv hc0 hc1' hc2
    have HS1 := hid (HS.out.below hb1)
    have HI1 := hid (HI.out.kept (W' := w1) (fun i _ hi => hb1.block i (by have := HI.out.lt; omega)))
    have hj1 := HJ.out _ _ _ hj (Near.of_below hb1 (fun i _ hi => by have := HI.out.lt; omega))
    have hv := HS1.out.box
    have hc0 := HS1.out.work.c0
    have hc1' := HS1.out.work.c1
    have hc2 := HS1.out.work.c2
    have HJ1 := hid hj1
    clear hb1 hj hj1 HS HI
    clear W
    obtain ⟨b1, o1, rfl, hlt1, hcell⟩ := HS1.out.stems.at hkn
    rw [hs] at hcell
    have hsw : (sN : Int) + 1 ≤ 10 := by omega
    clear hs
    go_wp2_with fail
    go_loopw [29] (fun i wr => ∃ (j : Nat) (y : Int), j ≤ sN + 1 ∧ i = .int .i64 j ∧ J (done ++ (List.range j).flatMap f) wr ∧ SurvAt wr b bv bm rr cc (some ⟨b1, o1, none⟩) n c l sm q m d cs po no co outl (nn + j * (1 + costP r)) ∧ ItBox wr l0 B bv (pre ++ [y])) (fun i _ => 10 - (intOf i).toNat)
    case atStart => exact ⟨0, 0, by omega, rfl, by simpa using HJ1.out, by simpa using HS1.out, ItBox.zero.2 HI1.out⟩
    case round =>
      clear HJ1 HS1 HI1 hv hc0 hc1' hc2
      obtain ⟨j, y, hj, rfl, hjj, hS, hI⟩ := hrel
      by_cases hlt : j < sN + 1
      · have hq9 : pre.length < 9 := by have := HPL.out; omega
        have hset := hI.set hq9 (j : Int)
        rw [HPL.out] at hset
        obtain ⟨W1, hW1⟩ : ∃ W1, wr.setCell ⟨B + 1, k, none⟩ (.int .i64 j) = W1 := ⟨_, rfl⟩
        have hfz := hI.hits.2 k (by omega)
        have hcl := hI.hits.1 k (by omega)
        have hn1 : Near (fun i => i = bm ∨ (B ≤ i ∧ i < B + 3)) wr W1 := by rw [← hW1]; exact (Near.refl _ _).setCell (fun _ => .inr (by show B ≤ B + 1 ∧ B + 1 < B + 3; omega)) _
        rw [hW1] at hset
        have hBlt := hI.lt
        have HS1 : Hid (SurvAt W1 b bv bm rr cc (some ⟨b1, o1, none⟩) n c l sm q m d cs po no co outl (nn + j * (1 + costP r))) := by
          refine hS.kept (fun i hi _ => ?_) hn1.size
          rw [← hW1]
          exact Below.heap_setCell _ _ _ _ (by have := HRB.out i hi; show i ≠ B + 1; omega)
        have HI1 := hid hset
        have HJ1 := hid (HJ.out _ _ _ hjj hn1)
        have hv := HS1.out.box
        clear hS hI hset hjj hn1
        have hjk : (j : Int) ≤ 9 := by omega
        go_wp2_with fail
        obtain ⟨M, hM, hKn⟩ := HS1.out.known
        have hcost1 : nn + j * (1 + costP r) < maxLen := by
          have := HNN.out
          rw [HCOST.out] at this
          have h2 : j * (1 + costP r) ≤ (sN + 1) * (1 + costP r) := Nat.mul_le_mul_right _ (by omega)
          omega
        refine (right_any b rr cc _ n c sm q m d cs po no co outl bm _ M k j W1 HS1.out.work HS1.out.cnts HS1.out.outs hm hno hM hKn hcost1 (by omega) (by omega)).mono ?_
        rintro e W2 ⟨rfl, M2, hM2, hKn2, hn2⟩
        have HS2 : Hid (SurvAt W2 b bv bm rr cc (some ⟨b1, o1, none⟩) n c l sm q m d cs po no co outl (nn + (j * (1 + costP r) + 1))) := HS1.out.known' hM2 hKn2 (fun i h1 h2 => hn2.block i h1 h2) hn2.size
        have hbB := HRB.out bm (.inr (.inr (.inl rfl)))
        have HI2 := hid (HI1.out.kept (W' := W2) (fun i h1 h2 => hn2.block i (by have := HI1.out.lt; omega) (by omega)))
        have HJ2 : Hid (J (done ++ (List.range j).flatMap f) W2) := HJ.out _ _ _ HJ1.out (hn2.mono (fun i _ e => .inl e))
        clear hM hKn hM2 hKn2 hn2 hv hcost1 HS1 HI1 HJ1
        have HMORE : Hid (∀ W' x, x ≤ j * (1 + costP r) + (1 + costP r) → SurvAt W' b bv bm rr cc (some ⟨b1, o1, none⟩) n c l sm q m d cs po no co outl (nn + x) → SurvAt W' b bv bm rr cc (some ⟨b1, o1, none⟩) n c l sm q m d cs po no co outl (nn + (j + 1) * (1 + costP r))) := by
          intro W' x hx hS
          obtain ⟨M, hM, hK⟩ := hS.known
          exact ⟨hS.work, hS.box, hS.stems, hS.cnts, hS.outs, M, hM.more (by rw [Nat.add_mul, Nat.one_mul]; omega), hK⟩
        cases hrt : rightB cs outl k j
        · have HFJ : Hid (f j = []) := by show _ = _; rw [HF.out]; simp [okP, hrt]
          go_wp2_with fail
          go_roundw
          case rel => exact ⟨j + 1, j, by omega, by go_num, by rw [flat_succ, HFJ.out, List.append_nil]; exact HJ2.out, HMORE.out _ _ (by omega) HS2.out, HI2.out⟩
          case measure => simp [intOf]; omega
        · have hsm := smooth_any b k (pre ++ [(j : Int)]) cc sm W2 HS2.out.work.c1 HS2.out.work.c3 (by omega) (fun x hx => by
            rcases List.mem_append.1 hx with h | h
            · exact HPB.out x h
            · simp at h; omega) hc1 hc4 hs0 hs9
          have hv := HS2.out.box
          have hhits := HI2.out.hits.1
          obtain ⟨hh, hhe⟩ : ∃ hh, hh = pre ++ [(j : Int)] := ⟨_, rfl⟩
          rw [← hhe] at hsm hhits
          unfold hitsV at hsm
          have HSM := hid hsm
          have HHE := hid hhe
          have q0 := hhits 0 (by omega)
          have q1 := hhits 1 (by omega)
          have q2 := hhits 2 (by omega)
          have q3 := hhits 3 (by omega)
          have q4 := hhits 4 (by omega)
          have q5 := hhits 5 (by omega)
          have q6 := hhits 6 (by omega)
          have q7 := hhits 7 (by omega)
          have q8 := hhits 8 (by omega)
          clear hsm hhits hhe
          go_wp2_with fail
          refine HSM.out.mono ?_
          rintro e W3 ⟨rfl, hb3⟩
          clear q0 q1 q2 q3 q4 q5 q6 q7 q8 hv HSM
          rw [HHE.out]
          clear HHE
          have HS3 := hid (HS2.out.below hb3)
          have HI3 := hid (HI2.out.kept (W' := W3) (fun i h1 h2 => hb3.block i (by have := HI2.out.lt; omega)))
          have HJ3 : Hid (J (done ++ (List.range j).flatMap f) W3) := HJ.out _ _ _ HJ2.out (Near.of_below hb3 (fun i h1 h2 => by omega))
          clear hb3 HS2 HI2 HJ2
          cases hsm : smoothB cc sm (pre ++ [(j : Int)]) k
          · have HFJ : Hid (f j = []) := by show _ = _; rw [HF.out]; simp [okP, hrt, hsm]
            go_wp2_with fail
            go_roundw
            case rel => exact ⟨j + 1, j, by omega, by go_num, by rw [flat_succ, HFJ.out, List.append_nil]; exact HJ3.out, HMORE.out _ _ (by omega) HS3.out, HI3.out⟩
            case measure => simp [intOf]; omega
          · have HFJ : Hid (f j = genP (okP cs outl cc sm) r (k + 1) (pre ++ [(j : Int)])) := by show _ = _; rw [HF.out]; simp [okP, hrt, hsm]
            obtain ⟨t, ht⟩ := flat_at f (sN + 1) j hlt
            have hch := HI3.out.choose
            have hcost2 : nn + (j * (1 + costP r) + 1) + costP r < maxLen := by
              have := HNN.out
              rw [HCOST.out] at this
              have h2 : (j + 1) * (1 + costP r) ≤ (sN + 1) * (1 + costP r) := Nat.mul_le_mul_right _ (by omega)
              rw [Nat.add_mul, Nat.one_mul] at h2
              omega
            have HCALL := hid (HIH.out (k + 1) (pre ++ [(j : Int)]) (nn + (j * (1 + costP r) + 1)) (done ++ (List.range j).flatMap f) (t ++ tail) W3 HDR.out (by omega) (by rw [List.length_append, HPL.out]; rfl)
              (fun x hx => by
                rcases List.mem_append.1 hx with h | h
                · exact HPB.out x h
                · simp at h; omega) hcost2 HS3.out HI3.out (by rw [HALL.out, HGEN.out, ht, HFJ.out]; simp) HJ3.out)
            clear hcost2 ht
            go_wp2_with fail
            rw [show (k : Int) + 1 = ((k + 1 : Nat) : Int) by omega]
            refine HCALL.out.mono ?_
            rintro e W4 (⟨rfl, hj4, hS4, hI4⟩ | ⟨rfl, qq, tt, hqt, hx4⟩)
            · have HJ4 := hid hj4
              have HS4 := hid hS4
              have HI4 := hid hI4
              clear hj4 hS4 hI4 hch
              go_wp2_with fail
              go_roundw
              case rel => exact ⟨j + 1, j, by omega, by go_num, by rw [flat_succ, HFJ.out, ← List.append_assoc]; exact HJ4.out, HMORE.out _ (j * (1 + costP r) + 1 + costP r) (by omega) (by rw [← Nat.add_assoc]; exact HS4.out), HI4.out⟩
              case measure => simp [intOf]; omega
            · clear hch
              have HX := hid hx4
              have HQT := hid hqt
              clear hx4 hqt
              go_wp2_with fail
              go_ret
              exact .inr ⟨rfl, qq, tt, HQT.out, HX.out⟩
      · have hje : j = sN + 1 := by omega
        subst hje
        have hq9 : pre.length < 9 := by have := HPL.out; omega
        have hset := hI.set hq9 0
        rw [HPL.out] at hset
        obtain ⟨W1, hW1⟩ : ∃ W1, wr.setCell ⟨B + 1, k, none⟩ (.int .i64 0) = W1 := ⟨_, rfl⟩
        have hfz := hI.hits.2 k (by omega)
        have hcl := hI.hits.1 k (by omega)
        have hn1 : Near (fun i => i = bm ∨ (B ≤ i ∧ i < B + 3)) wr W1 := by rw [← hW1]; exact (Near.refl _ _).setCell (fun _ => .inr (by show B ≤ B + 1 ∧ B + 1 < B + 3; omega)) _
        rw [hW1] at hset
        have HS1 : Hid (SurvAt W1 b bv bm rr cc (some ⟨b1, o1, none⟩) n c l sm q m d cs po no co outl (nn + (sN + 1) * (1 + costP r))) := by
          refine hS.kept (fun i hi _ => ?_) hn1.size
          rw [← hW1]
          exact Below.heap_setCell _ _ _ _ (by have := HRB.out i hi; show i ≠ B + 1; omega)
        have HI1 := hid (ItBox.zero.1 hset)
        have HJ1 := hid (HJ.out _ _ _ hjj hn1)
        clear hS hI hset hjj hn1
        go_wp2_with fail
        go_ret
        exact .inl ⟨rfl, by rw [HGEN.out]; exact HJ1.out, by rw [HCOST.out]; exact HS1.out, HI1.out⟩
end
end Go.Proofs.Ytlicijnaacdceaa

/- The iterator over the truths gives them, where a round may write blocks of its own. -/
namespace Go.Proofs.Ytlicijnaacdceaa
open Go.RowKit

section
variable (b bv bm : Nat) (rr cc : Int) (p : Option Addr) (n c : Nat) (l : List Int) (sm : Int) (q : Option Addr) (m d : Nat) (cs : List Cnt) (po : Option Addr) (no co : Nat) (outl : List Int)

set_option maxRecDepth 40000 in
set_option maxHeartbeats 4000000 in
/-- The iterator over the truths gives them. -/
theorem truths_gives2 (hl : n = l.length) (hn : n ≤ 9) (hm : m ≤ 1000000) (hno : no ≤ 1000000) (hlb : ∀ x ∈ l, 0 ≤ x ∧ x ≤ 9) (hc1 : 1 ≤ cc) (hc4 : cc ≤ 4) (hs0 : 0 ≤ sm) (hs9 : sm ≤ 9) (w : World) (k : Nat)
    (hS : SurvAt w b bv bm rr cc p n c l sm q m d cs po no co outl 0) :
    Gives2 Fence.wide k Try.prog 95 #[.pointer (some ⟨bv, 0, none⟩)] hitsV (genP (okP cs outl cc sm) l 0 []) (fun i => i = bm) (RdOf b bv bm p n q m po no) w := by
  intro l0 J Jx C W hW hC hJ hJx hY h0
  refine (callsIn_wide (n := k)).2 ?_
  have hS1 := hS.below hW
  obtain ⟨W2, hW2⟩ : ∃ W2, (W.alloc (.cells #[.func (.yield l0) #[] #[]] 142)).alloc (.cells #[.int .i64 0, .int .i64 0, .int .i64 0, .int .i64 0, .int .i64 0, .int .i64 0, .int .i64 0, .int .i64 0, .int .i64 0] 116) = W2 := ⟨_, rfl⟩
  have hmf : ∀ (fn : Fn) (first cap : Array Value) (w : World), (Instr.makeFunc fn first cap).run Try.prog w = .ok (.func fn first cap) w := fun _ _ _ _ => rfl
  have hargs : (#[.func (.yield l0) #[] #[]] ++ #[.pointer (some ⟨bv, 0, none⟩)] : Array Value) = #[.func (.yield l0) #[] #[], .pointer (some ⟨bv, 0, none⟩)] := rfl
  rw [hargs]
  have hsz2 : W2.heap.size = W.heap.size + 2 := by rw [← hW2]; simp
  have hb2 : Below W.heap.size W W2 := by rw [← hW2]; exact ((Below.refl _ _).alloc (Nat.le_refl _) _).alloc (by simp) _
  obtain ⟨W3, hW3⟩ : ∃ W3, W2.alloc (.cells #[.func (.func 96) #[] #[.pointer (some ⟨bv, 0, none⟩), .pointer (some ⟨W.heap.size, 0, none⟩), .pointer (some ⟨W.heap.size + 1, 0, none⟩), .pointer (some ⟨W2.heap.size, 0, none⟩)]] 128) = W3 := ⟨_, rfl⟩
  have hb3 : Below W2.heap.size W2 W3 := by rw [← hW3]; exact (Below.refl _ _).alloc (Nat.le_refl _) _
  have hbW : Below W.heap.size W W3 := hb2.trans (hb3.mono hb2.size)
  have hI : ItBox W3 l0 W.heap.size bv [] := by
    refine ⟨?_, ?_, ?_⟩
    · have h1 : W2.cell? ⟨W.heap.size, 0, none⟩ = some (.func (.yield l0) #[] #[]) := by
        rw [← hW2]
        exact (((Below.refl _ _).alloc (Nat.le_refl _) _ : Below (W.alloc (.cells #[.func (.yield l0) #[] #[]] 142)).heap.size _ _).cell (p := ⟨W.heap.size, 0, none⟩) (by simp)).trans (cell_box W _ _ 0 _ rfl)
      exact (hb3.cell (p := ⟨W.heap.size, 0, none⟩) (by show W.heap.size < _; omega)).trans h1
    · have h1 : HitsW W2 (W.heap.size + 1) [] := by
        have := hitsAt_zero (W.alloc (.cells #[.func (.yield l0) #[] #[]] 142)) 116
        rw [hW2, World.size_alloc] at this
        exact this
      exact h1.kept (hb3.block _ (by omega))
    · have := cell_box W2 #[.func (.func 96) #[] #[.pointer (some ⟨bv, 0, none⟩), .pointer (some ⟨W.heap.size, 0, none⟩), .pointer (some ⟨W.heap.size + 1, 0, none⟩), .pointer (some ⟨W2.heap.size, 0, none⟩)]] 128 0 _ rfl
      rw [hW3, hsz2] at this
      exact this
  have hRB : ∀ k, RdOf b bv bm p n q m po no k → k < W.heap.size := by
    intro k hk
    obtain ⟨M, hM, _⟩ := hS1.known
    rcases hk with rfl | rfl | rfl | ⟨a, ha, h0, rfl⟩ | ⟨a, ha, h0, rfl⟩ | ⟨a, ha, h0, rfl⟩
    · exact hS1.work.lt
    · exact World.block_lt_of_cell? _ _ hS1.box
    · exact hM.lt
    · obtain ⟨b1, o1, e, hlt, _⟩ := hS1.stems.at h0
      rw [ha] at e; cases e; exact hlt
    · obtain ⟨x, _, b1, o1, e, hlt, _⟩ := hS1.cnts.at h0
      rw [ha] at e; cases e; exact hlt
    · obtain ⟨b1, o1, e, hlt, _⟩ := hS1.outs.at h0
      rw [ha] at e; cases e; exact hlt
  have hcall := choose2_any l0 W.heap.size b bv bm rr cc p n c l sm q m d cs po no co outl J Jx C (genP (okP cs outl cc sm) l 0 []) hl hn hm hno hlb hc1 hc4 hs0 hs9 hRB hJ hC
    (fun done x rest W1 h hz hj => yield_any 0 (hY done x rest W1 h hz hj)) l 0 [] 0 [] [] W3 rfl (Nat.zero_le _) rfl (by simp) (costP_lt l (by omega) hlb) (hS1.below hbW) hI (by simp) (hJ _ _ _ h0 (Near.of_below hbW (fun i h1 h2 => by omega)))
  rw [show W.heap.size + 2 = W2.heap.size from hsz2.symm] at hcall
  have hq : W3.cell? ⟨W2.heap.size, 0, none⟩ = some (.func (.func 96) #[] #[.pointer (some ⟨bv, 0, none⟩), .pointer (some ⟨W.heap.size, 0, none⟩), .pointer (some ⟨W.heap.size + 1, 0, none⟩), .pointer (some ⟨W2.heap.size, 0, none⟩)]) := by
    rw [← hW3]; exact cell_box W2 _ _ 0 _ rfl
  have HC := hid hcall
  clear hcall hS hS1 hJ hJx hY h0 hRB hI hbW hb3 hb2 hsz2 hW hC
  go_enter Try.func95, Try.ntmps95
  go_wp2_with fail
  refine HC.out.mono ?_
  rintro e W4 (⟨rfl, hj4, _⟩ | ⟨rfl, qq, tt, hqt, hx4⟩)
  · have HJ4 := hid hj4
    clear hj4
    go_wp2_with fail
    go_end0
    exact ⟨⟨_, rfl⟩, .inl HJ4.out⟩
  · have HX := hid hx4
    have HQ := hid hqt
    clear hx4 hqt
    go_wp2_with fail
    go_end0
    exact ⟨⟨_, rfl⟩, .inr ⟨qq, tt, HQ.out, HX.out⟩⟩
end
end Go.Proofs.Ytlicijnaacdceaa
