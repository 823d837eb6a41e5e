/- Drawn places, foreign counts: plain facts. No condition. -/
import Derived.Test.YtlicijnaacdceaaProZH
namespace Go.Proofs.Ytlicijnaacdceaa
open Go.RowKit

theorem hasB_false {l : List Int} {x : Int} : hasB l x = false ↔ x ∉ l := by
  rw [← hasB_mem]; cases hasB l x <;> simp

theorem drawG_facts (L : Nat) (hL : 1 ≤ L) (step : Int) : ∀ (r : Nat) (i x : Int) (out : List Int), out.Nodup → (∀ y ∈ out, 0 ≤ y ∧ y < L) → out.length + r ≤ L →
    (drawG L step r i x out).Nodup ∧ (∀ y ∈ drawG L step r i x out, 0 ≤ y ∧ y < L) ∧ out <+: drawG L step r i x out
  | 0, _, _, out, h1, h2, _ => ⟨h1, h2, List.prefix_refl _⟩
  | r + 1, i, x, out, h1, h2, h3 => by
    rw [drawG]
    obtain ⟨y, hy⟩ : ∃ y, (31 * x + step + i) % 9973 = y := ⟨_, rfl⟩
    rw [hy]
    have hm : (y % (L : Int)).toNat < L := by
      have a1 := Int.emod_nonneg y (show (L : Int) ≠ 0 by omega)
      have a2 := Int.emod_lt_of_pos y (show (0 : Int) < L by omega)
      omega
    have hp := probe_ok out L _ hm (by omega)
    have hf := hasB_false.1 (probe_free out L L _ hp)
    have hlt := probe_lt out L L _ hm
    generalize probeG out L L (y % (L : Int)).toNat = z at *
    have g := drawG_facts L hL step r (i + 1) y (out ++ [(z : Int)]) (by
      rw [List.nodup_append]
      exact ⟨h1, by simp, fun a ha b hb => by simp at hb; subst hb; rintro rfl; exact hf ha⟩) (by
      intro u hu
      rcases List.mem_append.1 hu with hu | hu
      · exact h2 u hu
      · simp at hu; omega) (by simp; omega)
    exact ⟨g.1, g.2.1, (List.prefix_append _ _).trans g.2.2⟩

theorem drawG_snoc (L : Nat) (step : Int) : ∀ (r : Nat) (i x : Int) (out : List Int), ∃ z, drawG L step (r + 1) i x out = drawG L step r i x out ++ [z]
  | 0, _, _, _ => ⟨_, rfl⟩
  | r + 1, i, x, out => by
    rw [drawG]
    obtain ⟨z, hz⟩ := drawG_snoc L step r (i + 1) ((31 * x + step + i) % 9973) (out ++ [((probeG out L L ((31 * x + step + i) % 9973 % L).toNat : Nat) : Int)])
    exact ⟨z, by rw [hz, drawG]⟩

theorem take_drop_mem {l : List Int} {z : Nat} (hn : l.Nodup) (hz : z < l.length) (y : Int) : y ∈ l.take z ++ l.drop (z + 1) ↔ y ∈ l ∧ y ≠ l[z] := by
  have e : l = l.take z ++ l[z] :: l.drop (z + 1) := by rw [← List.drop_eq_getElem_cons hz, List.take_append_drop]
  have hn' : (l.take z ++ l[z] :: l.drop (z + 1)).Nodup := e ▸ hn
  rw [List.nodup_append] at hn'
  obtain ⟨a1, a2, a3⟩ := hn'
  rw [List.nodup_cons] at a2
  constructor
  · intro h
    refine ⟨?_, ?_⟩
    · rw [e]
      rcases List.mem_append.1 h with h | h
      · exact List.mem_append_left _ h
      · exact List.mem_append_right _ (List.mem_cons_of_mem _ h)
    · rintro rfl
      rcases List.mem_append.1 h with h | h
      · exact a3 _ h _ List.mem_cons_self rfl
      · exact a2.1 h
  · rintro ⟨h1, h2⟩
    have h3 : y ∈ l.take z ++ l[z] :: l.drop (z + 1) := e ▸ h1
    rcases List.mem_append.1 h3 with h | h
    · exact List.mem_append_left _ h
    · rcases List.mem_cons.1 h with h | h
      · exact absurd h h2
      · exact List.mem_append_right _ h

theorem indexG_get (x : Int) : ∀ (l : List Int) (i : Int), 0 ≤ indexG x i l → 0 ≤ i → ∃ z : Nat, indexG x i l = i + z ∧ ∃ h : z < l.length, l[z] = x
  | [], i, h, _ => by simp [indexG] at h
  | a :: r, i, h, hi => by
    unfold indexG at h ⊢
    split
    · rename_i e
      exact ⟨0, by simp, by simp, by simpa using (beq_iff_eq.1 e).symm⟩
    · rename_i e
      rw [if_neg e] at h
      obtain ⟨z, h1, h2, h3⟩ := indexG_get x r (i + 1) h (by omega)
      exact ⟨z + 1, by rw [h1]; omega, by simp; omega, by simpa using h3⟩

theorem forG_eq (drawn : List Int) : ∀ (cs : List Cnt) (left bf out : List Int) (i : Int), left.Nodup → (∀ y, y ∈ left ↔ y ∈ drawn ∧ y ∉ bf) → forG left i cs out = foreignG drawn i cs bf out
  | [], _, _, _, _, _, _ => rfl
  | c :: r, left, bf, out, i, hn, hm => by
    rw [forG, foreignG]
    have hh := indexG_has c.place 0 left (by omega)
    by_cases hz : indexG c.place 0 left < 0
    · rw [if_pos hz]
      have hno : c.place ∉ left := by
        rw [← hasB_false, ← hh]; simpa using hz
      have hc : (!hasB drawn c.place || hasB bf c.place) = true := by
        rw [hm] at hno
        by_cases h1 : c.place ∈ drawn
        · have h2 : c.place ∈ bf := Classical.byContradiction fun h => hno ⟨h1, h⟩
          rw [(hasB_mem bf c.place).2 h2]; simp
        · rw [hasB_false.2 h1]; rfl
      rw [if_pos hc]
      refine forG_eq drawn r left (bf ++ [c.place]) _ _ hn fun y => ?_
      rw [hm]
      constructor
      · rintro ⟨a, b⟩
        exact ⟨a, fun h => by
          rcases List.mem_append.1 h with h | h
          · exact b h
          · simp at h; subst h; exact hno ((hm _).2 ⟨a, b⟩)⟩
      · rintro ⟨a, b⟩
        exact ⟨a, fun h => b (List.mem_append_left _ h)⟩
    · rw [if_neg hz]
      obtain ⟨z, h1, h2, h3⟩ := indexG_get c.place left 0 (by omega) (by omega)
      have e : (indexG c.place 0 left).toNat = z := by omega
      rw [e]
      have hin : c.place ∈ left := by rw [← h3]; exact List.getElem_mem h2
      have hd := (hm _).1 hin
      have hc : (!hasB drawn c.place || hasB bf c.place) = false := by
        rw [(hasB_mem drawn c.place).2 hd.1, hasB_false.2 hd.2]; rfl
      rw [hc]
      simp only [Bool.false_eq_true, if_false]
      refine forG_eq drawn r _ (bf ++ [c.place]) out _ ?_ fun y => ?_
      · have e2 : (left.take z ++ left.drop (z + 1)).Sublist left := by
          have e3 : left = left.take z ++ left.drop z := (List.take_append_drop z left).symm
          conv => rhs; rw [e3]
          exact List.Sublist.append (List.Sublist.refl _) (by rw [← List.tail_drop]; exact List.tail_sublist _)
        exact hn.sublist e2
      · rw [take_drop_mem hn h2, hm, h3]
        constructor
        · rintro ⟨⟨a, b⟩, cne⟩
          exact ⟨a, fun h => by
            rcases List.mem_append.1 h with h | h
            · exact b h
            · simp at h; exact cne h⟩
        · rintro ⟨a, b⟩
          exact ⟨⟨a, fun h => b (List.mem_append_left _ h)⟩, fun h => b (List.mem_append_right _ (by simp [h]))⟩

theorem drawL_facts {L : Nat} {seed step draws : Int} (hL : 1 ≤ L) (hd : draws ≤ L) : (drawL L seed step draws).Nodup ∧ (∀ y ∈ drawL L seed step draws, 0 ≤ y ∧ y < L) ∧ (drawL L seed step draws).length = draws.toNat := by
  have h := drawG_facts L hL step draws.toNat 0 seed [] (by simp) (by simp) (by simp; omega)
  exact ⟨h.1, h.2.1, by rw [drawL, draw_len]; simp⟩

theorem for_foreign {L : Nat} {seed step draws : Int} {cs : List Cnt} (hL : 1 ≤ L) (hd : draws ≤ L) : forG (drawL L seed step draws) 0 cs [] = foreignL L seed step draws cs :=
  forG_eq _ cs _ [] [] 0 (drawL_facts hL hd).1 (fun y => by simp)

/-- Counts at places that were drawn, each once, are not foreign. -/
theorem foreignG_none (drawn : List Int) : ∀ (cs : List Cnt) (bf out : List Int) (i : Int), (∀ c ∈ cs, c.place ∈ drawn ∧ c.place ∉ bf) → (cs.map Cnt.place).Nodup → foreignG drawn i cs bf out = out
  | [], _, _, _, _, _ => rfl
  | c :: r, bf, out, i, h, hn => by
    rw [foreignG]
    have h1 := h c List.mem_cons_self
    rw [(hasB_mem drawn c.place).2 h1.1, hasB_false.2 h1.2]
    simp only [Bool.not_true, Bool.or_self, Bool.false_eq_true, if_false]
    rw [List.map_cons, List.nodup_cons] at hn
    refine foreignG_none drawn r _ _ _ (fun c' hc' => ?_) hn.2
    have h2 := h c' (List.mem_cons_of_mem _ hc')
    refine ⟨h2.1, fun hh => ?_⟩
    rcases List.mem_append.1 hh with hh | hh
    · exact h2.2 hh
    · simp at hh; exact hn.1 (hh ▸ List.mem_map.2 ⟨c', hc', rfl⟩)

theorem foreignG_snoc (drawn : List Int) (c : Cnt) : ∀ (cs : List Cnt) (bf out : List Int) (i : Int), foreignG drawn i (cs ++ [c]) bf out = (if (!hasB drawn c.place || hasB (bf ++ cs.map Cnt.place) c.place) = true then foreignG drawn i cs bf out ++ [i + cs.length] else foreignG drawn i cs bf out)
  | [], bf, out, i => by simp [foreignG]
  | a :: r, bf, out, i => by
    rw [List.cons_append, foreignG, foreignG_snoc drawn c r, foreignG]
    simp only [List.map_cons, List.append_assoc, List.singleton_append, List.length_cons]
    have e : i + 1 + (r.length : Int) = i + ((r.length + 1 : Nat) : Int) := by omega
    rw [e]

end Go.Proofs.Ytlicijnaacdceaa
