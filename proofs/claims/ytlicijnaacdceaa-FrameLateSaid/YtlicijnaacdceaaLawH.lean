/- Marks of counts, and parts of slices of counts. No condition. -/
import Derived.Test.YtlicijnaacdceaaLawG
import Derived.Test.YtlicijnaacdceaaPlnK
namespace Go.Proofs.Ytlicijnaacdceaa
open Go.RowKit

theorem lateAt_succ (c : Cnt) (r : List Cnt) (k : Nat) (b : Bool) : lateAt (c :: r) (k + 1) b = c :: lateAt r k b := by
  refine List.ext_getElem? fun j => ?_
  rw [lateAt_get]
  cases j with
  | zero => simp
  | succ j =>
    rw [List.getElem?_cons_succ, List.getElem?_cons_succ, lateAt_get]
    cases r[j]? <;> simp

theorem lateAt_zero (c : Cnt) (r : List Cnt) (b : Bool) : lateAt (c :: r) 0 b = ⟨c.place, c.lo, c.hi, b⟩ :: r := by
  refine List.ext_getElem? fun j => ?_
  rw [lateAt_get]
  cases j with
  | zero => simp
  | succ j =>
    rw [List.getElem?_cons_succ, List.getElem?_cons_succ]
    cases r[j]? <;> simp

theorem flat_late (b : Bool) : ∀ (cs : List Cnt) (k : Nat), k < cs.length → (cs.flatMap cells4).set (k * 4 + 3) (.bool b) = (lateAt cs k b).flatMap cells4
  | [], k, h => by simp at h
  | c :: r, 0, _ => by
    rw [lateAt_zero]
    simp [cells4]
  | c :: r, k + 1, h => by
    rw [lateAt_succ, List.flatMap_cons, List.flatMap_cons, ← flat_late b r k (by simpa using h)]
    rw [List.set_append_right _ _ (by show 4 ≤ _; omega)]
    have e : (k + 1) * 4 + 3 - (cells4 c).length = k * 4 + 3 := by show (k + 1) * 4 + 3 - 4 = _; omega
    rw [e]

theorem lateAt_len (cs : List Cnt) (k : Nat) (b : Bool) : (lateAt cs k b).length = cs.length := by unfold lateAt; simp

/-- A count's mark is set. -/
theorem OwnRef.late {W : World} {base g n cap : Nat} {cs : List Cnt} (hn : n = cs.length) (h : OwnRef W base (.slice (some ⟨g, 0, none⟩) n cap) cs) {k : Nat} (hk : k < cs.length) (b : Bool) :
    OwnRef (W.setCell ⟨g, k * 4 + 3, none⟩ (.bool b)) base (.slice (some ⟨g, 0, none⟩) n cap) (lateAt cs k b) := by
  subst hn
  unfold OwnRef at h ⊢
  rw [lateAt_len, ← flat_late b cs k hk]
  exact (World.ownsRow.stored h _ _).1

theorem step_append_ref1 {ops : Array Oper} {o : Oper} {a : Act} {w : World} {K : Act → World → Prop} {Q : Exit → Act → World → Prop} {E : Prop} (hgd : o.guard = none) (s x : Operand)
    (ho : o.op = .call { callee := .builtin .append, args := #[s, x], argTypes := #[25, 25] })
    (base : Nat) (v : Value) (q : Option Addr) (m c : Nat) (y : List Cnt) (hown : OwnRef w base v []) (hs : a.eval s = v) (hx : a.eval x = .slice q m c) (hy : CntsAt w q m y)
    (hm1 : 1 ≤ m) (hm : m ≤ 4000000) (hbase : base ≤ w.heap.size)
    (h : ∀ g cap w', OwnRef w' base (.slice (some ⟨g, 0, none⟩) m cap) y → Below base w w' → (∀ k, k < w.heap.size → some k ≠ v.ownBlock → w'.heap[k]? = w.heap[k]?) → (v.ownBlock = some g ∨ g = w.heap.size) → K (a.put o.dst (.slice (some ⟨g, 0, none⟩) m cap)) w') :
    if Region.wanted o (yielded ops a.tmps) = true then Oper.wp Try.prog o a w K Q else E := by
  obtain ⟨i0, hi, hz0, hz1, hz2⟩ := info_parts Try.info59
  obtain ⟨z0, hz⟩ : ∃ z, y[0]? = some z := ⟨y[0]'(by have := hy.1; omega), List.getElem?_eq_getElem _⟩
  obtain ⟨b, off, hq, _⟩ := hy.2 0 z0 hz
  subst hq
  refine step_append_lies w hgd s x 25 ho base 59 i0 _ 4 32 Try.und25 hi hz0 hz1 hz2 rfl (by decide) v 0 [] hs hown ⟨b, off, none⟩ m c (y.flatMap cells4) hx (by rw [flat4_len, hy.1]) ?_ ?_ (by omega) (by unfold maxLen; omega) (by omega) hbase w.heap.size rfl ?_
  · intro j u hj
    obtain ⟨z, hz, hu⟩ := flat_get4' y j u hj
    obtain ⟨b', off', e, hlt, q0, q1, q2, q3⟩ := hy.2 (j / 4) z hz
    cases e
    have e : (⟨b, off, none⟩ : Addr).add j = ⟨b, off + j / 4 * 4 + j % 4, none⟩ := by
      have e : (⟨b, off, none⟩ : Addr).add j = ⟨b, off + j, none⟩ := by unfold Addr.add; split <;> simp_all
      rw [e, show off + j = off + j / 4 * 4 + j % 4 by omega]
    rw [e]
    have hm4 : j % 4 < 4 := Nat.mod_lt _ (by omega)
    generalize j % 4 = k at hu hm4 ⊢
    match k, hm4 with
    | 0, _ => simp [cells4] at hu; subst hu; exact q0
    | 1, _ => simp [cells4] at hu; subst hu; exact q1
    | 2, _ => simp [cells4] at hu; subst hu; exact q2
    | 3, _ => simp [cells4] at hu; subst hu; exact q3
  · intro u hu
    obtain ⟨z, _, hz⟩ := List.mem_flatMap.1 hu
    simp only [cells4, List.mem_cons, List.not_mem_nil, or_false] at hz
    rcases hz with rfl | rfl | rfl | rfl <;> simp [Value.oneCell']
  · intro g cap w' h1 h2 h3 h4
    rw [Nat.zero_add] at h1 ⊢
    refine h g cap w' ?_ ?_ (fun k hk hne => h2.block k hk hne) h3
    · unfold OwnRef
      rw [← hy.1]
      simpa using h1
    · refine (Below.refl base w).grown h2 hbase ?_
      intro k hk
      exact (World.ownsRow.lt hown k hk).1

/-- The first counts of a slice, and those from one on. -/
theorem CntsAt.sub {W : World} {b o n : Nat} {cs : List Cnt} (h : CntsAt W (some ⟨b, o, none⟩) n cs) {i : Nat} (hi : i ≤ n) : CntsAt W (some ⟨b, o, none⟩) i (cs.take i) ∧ CntsAt W (some ⟨b, o + i * 4, none⟩) (n - i) (cs.drop i) := by
  refine ⟨⟨by rw [List.length_take, ← h.1]; omega, fun j c hj => ?_⟩, ⟨by rw [List.length_drop, ← h.1], fun j c hj => ?_⟩⟩
  · rw [List.getElem?_take] at hj
    split at hj
    · exact h.2 j c hj
    · cases hj
  · rw [List.getElem?_drop] at hj
    obtain ⟨b', o', e, r1, r2, r3, r4, r5⟩ := h.2 (i + j) c hj
    cases e
    have e2 : o + i * 4 + j * 4 = o + (i + j) * 4 := by omega
    exact ⟨b, o + i * 4, rfl, r1, by rw [e2]; exact r2, by rw [e2]; exact r3, by rw [e2]; exact r4, by rw [e2]; exact r5⟩
end Go.Proofs.Ytlicijnaacdceaa
