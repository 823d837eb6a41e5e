/- What is due to a question: the reference's answers are the program's. Plain facts. No condition. -/
import Derived.Test.YtlicijnaacdceaaPlnE
import Derived.Test.YtlicijnaacdceaaLawD
namespace Go.Proofs.Ytlicijnaacdceaa
open Go.RowKit

/-- The error that is due to a survey and a part. -/
def dueE (r cc : Int) (l : List Int) (sm : Int) (cs : List Cnt) (part : Int) : Int := if faultL r cc l sm cs = 0 ∧ inB part 0 100 = false then 2 else sureE r cc l sm cs
noncomputable def fewE (r cc : Int) (l : List Int) (sm : Int) (cs : List Cnt) (part : Int) : Int := if partE r cc l sm cs part = 0 then (if genP (okP cs [] cc sm) l 0 [] = [] then 9 else 0) else partE r cc l sm cs part
def FewIs (r cc : Int) (l : List Int) (sm : Int) (cs : List Cnt) (part : Int) (X : List Int) : Prop := if partE r cc l sm cs part = 0 ∧ genP (okP cs [] cc sm) l 0 [] ≠ [] then First (fewB cc sm part l cs) l.length X else X = []

section
variable {r cc : Int} {l : List Int} {sm : Int} {cs : List Cnt} {part : Int}

theorem truths_nil (h : faultL r cc l sm cs = 0) : genP (okP cs [] cc sm) l 0 [] = [] ↔ truthsL cc l sm cs 0 = [] := (truths_ok h).nil

theorem due_of {e : Int} (hd : dueE r cc l sm cs part = e) (hp : partE r cc l sm cs part = e) (he : e ≠ 0) : aboveR part r cc l sm cs = (0, dueE r cc l sm cs part) ∧ fewE r cc l sm cs part = dueE r cc l sm cs part ∧ ∀ X, FewIs r cc l sm cs part X → X = [] := by
  rw [hd]
  refine ⟨by unfold aboveR; rw [hp, if_neg he], by unfold fewE; rw [hp, if_neg he], fun X hX => ?_⟩
  unfold FewIs at hX
  rw [hp, if_neg (fun h => he h.1)] at hX
  exact hX

theorem due_bad (h : dueE r cc l sm cs part ≠ 0) : aboveR part r cc l sm cs = (0, dueE r cc l sm cs part) ∧ fewE r cc l sm cs part = dueE r cc l sm cs part ∧ ∀ X, FewIs r cc l sm cs part X → X = [] := by
  by_cases hf : faultL r cc l sm cs = 0
  · by_cases hi : inB part 0 100 = false
    · exact due_of (e := 2) (by unfold dueE; rw [if_pos ⟨hf, hi⟩]) (by unfold partE; rw [if_pos hf, if_neg (by simp [hi])]) (by decide)
    · have hi' : inB part 0 100 = true := by simpa using hi
      have hp : partE r cc l sm cs part = 0 := by unfold partE; rw [if_pos hf, if_pos hi']
      have hd : dueE r cc l sm cs part = sureE r cc l sm cs := by unfold dueE; rw [if_neg (fun h => hi h.2)]
      have hT : truthsL cc l sm cs 0 = [] := by
        refine Decidable.byContradiction fun e => ?_
        rw [hd, sureE, if_pos hf, if_neg e] at h; exact h rfl
      have hG := (truths_nil hf).2 hT
      rw [hd, sureE, if_pos hf, if_pos hT]
      refine ⟨by unfold aboveR; rw [if_pos hp, hG]; rfl, by unfold fewE; rw [if_pos hp, if_pos hG], fun X hX => ?_⟩
      unfold FewIs at hX
      rw [if_neg (fun h => h.2 hG)] at hX
      exact hX
  · exact due_of (e := faultL r cc l sm cs) (by unfold dueE sureE; rw [if_neg (fun h => hf h.1), if_neg hf]) (by unfold partE; rw [if_neg hf]) hf

theorem due_facts (h : dueE r cc l sm cs part = 0) : faultL r cc l sm cs = 0 ∧ inB part 0 100 = true ∧ truthsL cc l sm cs 0 ≠ [] := by
  unfold dueE at h
  by_cases hf : faultL r cc l sm cs = 0
  · by_cases hi : inB part 0 100 = false
    · rw [if_pos ⟨hf, hi⟩] at h; cases h
    · have hi' : inB part 0 100 = true := by simpa using hi
      rw [if_neg (by simp [hi'])] at h
      unfold sureE at h
      rw [if_pos hf] at h
      refine ⟨hf, hi', fun e => ?_⟩
      rw [if_pos e] at h; cases h
  · rw [if_neg (by simp [hf])] at h
    unfold sureE at h
    rw [if_neg hf] at h
    exact absurd h hf

theorem due_good (h : dueE r cc l sm cs part = 0) : aboveR part r cc l sm cs = (verdictL (spanL (fun i => shareL l (nthG l i)) (truthsL cc l sm cs 0)).1 (spanL (fun i => shareL l (nthG l i)) (truthsL cc l sm cs 0)).2 part, 0) ∧ fewE r cc l sm cs part = 0 ∧
    ∀ X, FewIs r cc l sm cs part X → X = bestL (fun k => decideB l (truthsL cc l sm cs 0) part k) l.length := by
  obtain ⟨hf, hi, hT⟩ := due_facts h
  have hp : partE r cc l sm cs part = 0 := by unfold partE; rw [if_pos hf, if_pos hi]
  have hok := truths_ok hf
  have hG : genP (okP cs [] cc sm) l 0 [] ≠ [] := fun e => hT (hok.nil.1 e)
  have hsp := hok.span (F := shareL l) (fun x hx => by have := share_bd (genP_listed hx); omega) hT
  have h9 : l.length ≤ 9 := (field_facts (fault0 hf).2.1).2.2.2.2.2.2.1
  refine ⟨?_, ?_, fun X hX => ?_⟩
  · unfold aboveR
    rw [if_pos hp, askV, if_pos (rngP_is' _ _ hG), hsp.1, hsp.2, aboveV, if_pos rfl]
  · unfold fewE; rw [if_pos hp, if_neg hG]
  · unfold FewIs at hX
    rw [if_pos ⟨hp, hG⟩] at hX
    exact hX.unique (best_few hok h9 part)

/-- The bounds that a question is answered with, if a survey has a truth. -/
theorem bnd_sure {F : List Int → Int} (hb : faultL r cc l sm cs = 0 → ∀ x ∈ genP (okP cs [] cc sm) l 0 [], 0 ≤ F x ∧ F x ≤ 1000) :
    (bndR F r cc l sm cs).2.2 = sureE r cc l sm cs ∧ (sureE r cc l sm cs ≠ 0 → (bndR F r cc l sm cs).1 = 0 ∧ (bndR F r cc l sm cs).2.1 = 0) ∧
    (sureE r cc l sm cs = 0 → faultL r cc l sm cs = 0 ∧ truthsL cc l sm cs 0 ≠ [] ∧ (bndR F r cc l sm cs).1 = (spanL (fun i => F (nthG l i)) (truthsL cc l sm cs 0)).1 ∧ (bndR F r cc l sm cs).2.1 = (spanL (fun i => F (nthG l i)) (truthsL cc l sm cs 0)).2) := by
  by_cases hf : faultL r cc l sm cs = 0
  · have hok := truths_ok hf
    by_cases hT : truthsL cc l sm cs 0 = []
    · rw [bnd_none hf (hok.nil.2 hT)]
      have hs : sureE r cc l sm cs = 9 := by unfold sureE; rw [if_pos hf, if_pos hT]
      rw [hs]
      exact ⟨rfl, fun _ => ⟨rfl, rfl⟩, fun h => by cases h⟩
    · have hG : genP (okP cs [] cc sm) l 0 [] ≠ [] := fun e => hT (hok.nil.1 e)
      have hs : sureE r cc l sm cs = 0 := by unfold sureE; rw [if_pos hf, if_neg hT]
      have hsp := hok.span (hb hf) hT
      have e : bndR F r cc l sm cs = ((rngP F (genP (okP cs [] cc sm) l 0 [])).1, (rngP F (genP (okP cs [] cc sm) l 0 [])).2.1, 0) := by
        rw [bndR, if_pos hf, askV, if_pos (rngP_is' F _ hG)]
      rw [hs, e]
      exact ⟨rfl, fun h => absurd rfl h, fun _ => ⟨hf, hT, hsp.1, hsp.2⟩⟩
  · have hs : sureE r cc l sm cs = faultL r cc l sm cs := by unfold sureE; rw [if_neg hf]
    have e : bndR F r cc l sm cs = (0, 0, faultL r cc l sm cs) := by rw [bndR, if_neg hf]
    rw [hs, e]
    exact ⟨rfl, fun _ => ⟨rfl, rfl⟩, fun h => absurd h hf⟩

def dueH (r cc : Int) (l : List Int) (sm : Int) (cs : List Cnt) (place : Int) : Int := if faultL r cc l sm cs = 0 ∧ inB place 0 ((l.length : Int) - 1) = false then 2 else sureE r cc l sm cs

theorem share_bnd : faultL r cc l sm cs = 0 → ∀ x ∈ genP (okP cs [] cc sm) l 0 [], 0 ≤ shareL l x ∧ shareL l x ≤ 1000 :=
  fun _ x hx => by have := share_bd (genP_listed hx); omega

theorem hit_bnd (k : Nat) : faultL r cc l sm cs = 0 → ∀ x ∈ genP (okP cs [] cc sm) l 0 [], 0 ≤ x[k]?.getD 0 ∧ x[k]?.getD 0 ≤ 1000 :=
  fun hf x hx => by have := listed_bd9 (field_facts (fault0 hf).2.1).2.2.2.2.2.2.2 (genP_listed hx) k; omega

theorem hits_due (place : Int) :
    (hitsR place r cc l sm cs).2.2 = dueH r cc l sm cs place ∧ (dueH r cc l sm cs place ≠ 0 → (hitsR place r cc l sm cs).1 = 0 ∧ (hitsR place r cc l sm cs).2.1 = 0) ∧
    (dueH r cc l sm cs place = 0 → sureE r cc l sm cs = 0 ∧ (∃ pl : Nat, place = pl ∧ pl < l.length) ∧ (hitsR place r cc l sm cs).1 = (spanL (fun i => (nthG l i)[place.toNat]?.getD 0) (truthsL cc l sm cs 0)).1 ∧ (hitsR place r cc l sm cs).2.1 = (spanL (fun i => (nthG l i)[place.toNat]?.getD 0) (truthsL cc l sm cs 0)).2) := by
  unfold hitsR dueH
  by_cases h : faultL r cc l sm cs = 0 ∧ inB place 0 ((l.length : Int) - 1) = false
  · rw [if_pos h, if_pos h]
    exact ⟨rfl, fun _ => ⟨rfl, rfl⟩, fun h => by cases h⟩
  · rw [if_neg h, if_neg h]
    obtain ⟨h1, h2, h3⟩ := bnd_sure (F := fun x => x[place.toNat]?.getD 0) (hit_bnd (r := r) (cc := cc) (l := l) (sm := sm) (cs := cs) place.toNat)
    refine ⟨h1, h2, fun e => ⟨e, ?_, (h3 e).2.2⟩⟩
    have hi : inB place 0 ((l.length : Int) - 1) = true := by
      cases hi : inB place 0 ((l.length : Int) - 1) with
      | true => rfl
      | false => exact absurd ⟨(h3 e).1, hi⟩ h
    simp only [inB, Bool.and_eq_true, decide_eq_true_eq] at hi
    exact ⟨place.toNat, by omega, by omega⟩
end
end Go.Proofs.Ytlicijnaacdceaa
