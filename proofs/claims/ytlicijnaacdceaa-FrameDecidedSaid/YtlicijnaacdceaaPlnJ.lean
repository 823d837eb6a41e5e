/- Counts at the places that decide: plain facts. No condition. -/
import Derived.Test.YtlicijnaacdceaaPlnG
import Derived.Test.YtlicijnaacdceaaLawTrt
namespace Go.Proofs.Ytlicijnaacdceaa
open Go.RowKit

/-- Counts at the places of a list, as they are in some hits. -/
def cntsX (hh : List Int) (X : List Int) : List Cnt := X.map fun a => ⟨a, hh[a.toNat]?.getD 0, hh[a.toNat]?.getD 0, false⟩

theorem cntsG_all (z : List Int) : ∀ (i : Nat) (L : List Cnt), cntsG z 0 i L = L.all fun c => c.late || inB (z[c.place.toNat]?.getD 0) c.lo c.hi
  | _, [] => rfl
  | i, c :: r => by
    rw [cntsG, cntsG_all z (i + 1) r, List.all_cons, cntB]
    simp

theorem truth_app {cc sm : Int} {l z : List Int} {cs L : List Cnt} : isTruthB cc l sm (cs ++ L) z 0 = true ↔ isTruthB cc l sm cs z 0 = true ∧ ∀ c ∈ L, c.late = false → inB (z[c.place.toNat]?.getD 0) c.lo c.hi = true := by
  unfold isTruthB
  rw [cntsG_all, cntsG_all, List.all_append]
  simp only [Bool.and_eq_true, List.all_eq_true, Bool.or_eq_true]
  constructor
  · rintro ⟨h1, h2, h3, h4⟩
    refine ⟨⟨h1, h2, h3⟩, fun c hc hl => ?_⟩
    rcases h4 c hc with h | h
    · rw [hl] at h; cases h
    · exact h
  · rintro ⟨⟨h1, h2, h3⟩, h4⟩
    refine ⟨h1, h2, h3, fun c hc => ?_⟩
    cases hl : c.late with
    | true => exact .inl rfl
    | false => exact .inr (h4 c hc hl)

theorem truth_cntsX {cc sm : Int} {l z hh X : List Int} {cs : List Cnt} : isTruthB cc l sm (cs ++ cntsX hh X) z 0 = true ↔ isTruthB cc l sm cs z 0 = true ∧ ∀ a ∈ X, z[a.toNat]?.getD 0 = hh[a.toNat]?.getD 0 := by
  rw [truth_app]
  refine and_congr_right fun _ => ?_
  unfold cntsX
  simp only [List.mem_map, inB, Bool.and_eq_true, decide_eq_true_eq]
  constructor
  · intro h a ha
    have := h _ ⟨a, ha, rfl⟩ rfl
    simp only at this
    omega
  · rintro h c ⟨a, ha, rfl⟩ _
    have := h a ha
    simp only
    omega

/-- Where the places that decide are counted as they are in a truth, the part is reached always or never. -/
theorem decided_verdict {r cc : Int} {l : List Int} {sm : Int} {cs : List Cnt} {part : Int} {X hh : List Int} (hf : faultL r cc l sm cs = 0) (hf2 : faultL r cc l sm (cs ++ cntsX hh X) = 0) (hfew : fewB cc sm part l cs X = true)
    (hm : hh ∈ genP (okP cs [] cc sm) l 0 []) (h0 : 0 ≤ part) (h1 : part ≤ 100) :
    aboveR part r cc l sm (cs ++ cntsX hh X) = (if part ≤ shareL l hh then 1 else 2, 0) := by
  rw [few_iff] at hfew
  have key : ∀ z ∈ genP (okP (cs ++ cntsX hh X) [] cc sm) l 0 [], (part ≤ shareL l z ↔ part ≤ shareL l hh) := by
    intro z hz
    obtain ⟨t1, t2⟩ := truth_cntsX.1 ((truth_gen hf2 z).1 hz)
    refine hfew z ((truth_gen hf z).2 t1) hh hm (seen_iff.2 fun j _ hX => ?_)
    have := t2 _ hX
    rwa [Int.toNat_natCast] at this
  have hmem : hh ∈ genP (okP (cs ++ cntsX hh X) [] cc sm) l 0 [] := (truth_gen hf2 hh).2 (truth_cntsX.2 ⟨(truth_gen hf hh).1 hm, fun _ _ => rfl⟩)
  have hG : genP (okP (cs ++ cntsX hh X) [] cc sm) l 0 [] ≠ [] := fun e => by rw [e] at hmem; cases hmem
  obtain ⟨lo, hi, ⟨⟨z1, hz1, rfl⟩, ⟨z2, hz2, rfl⟩, hb⟩, hlo, hab⟩ := above_span hf2 hG
  rw [hab part h0 h1, verdictL]
  have k1 := key z1 hz1
  have k2 := key z2 hz2
  by_cases hp : part ≤ shareL l hh
  · rw [if_pos (k1.2 hp), if_pos hp]
  · rw [if_neg (fun h => hp (k1.1 h)), if_neg hp, if_pos (by have := mt k2.1 hp; omega)]

theorem cntsX_snoc {hh X : List Int} {k j : Nat} (hj : X[k]? = some (j : Int)) : cntsX hh (X.take (k + 1)) = cntsX hh (X.take k) ++ [⟨(j : Int), hh[j]?.getD 0, hh[j]?.getD 0, false⟩] := by
  have ht : X.take (k + 1) = X.take k ++ [(j : Int)] := by rw [List.take_add_one, hj]; rfl
  unfold cntsX
  rw [ht, List.map_append]
  simp
end Go.Proofs.Ytlicijnaacdceaa
