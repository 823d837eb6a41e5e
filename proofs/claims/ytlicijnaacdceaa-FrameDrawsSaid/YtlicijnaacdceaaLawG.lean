/- Appends of the reference's counts in plain regions. No condition. -/
import Derived.Test.YtlicijnaacdceaaLawF
import Derived.Test.YtlicijnaacdceaaLawB
namespace Go.Proofs.Ytlicijnaacdceaa
open Go.RowKit

/-- append(out, l...), l the reference's counts that lie somewhere: at the operation. -/
theorem append_refs {ops : Array Oper} {rest : List Oper} {o : Oper} {a : Act} {w : World} {Q : Exit → Act → World → Prop} (hgd : o.guard = none) (s x : Operand)
    (ho : o.op = .call { callee := .builtin .append, args := #[s, x], argTypes := #[25, 25] })
    (base : Nat) (v : Value) (l : List Cnt) (ad : Addr) (m c : Nat) (y : List Cnt) (hown : OwnRef w base v l) (hs : a.eval s = v) (hx : a.eval x = .slice (some ad) m c) (hy : CntsAt w (some ad) m y)
    (hlen : l.length ≤ 1000000) (hm : m ≤ 1000000) (hbase : base ≤ w.heap.size)
    (h : ∀ v' w', OwnRef w' base v' (l ++ y) → Below base w w' → wpList Try.prog ops Q rest (a.put o.dst v') w') :
    wpList Try.prog ops Q (o :: rest) a w := by
  obtain ⟨i0, hi, hz0, hz1, hz2⟩ := info_parts Try.info59
  have hl4 : ∀ T : List Cnt, (T.flatMap cells4).length = T.length * 4 := by
    intro T
    induction T with
    | nil => rfl
    | cons t T ih => rw [List.flatMap_cons, List.length_append, ih, List.length_cons]; show 4 + _ = _; omega
  refine wpList_append_own _ hgd s x 25 ho base 59 i0 _ 4 32 Try.und25 hi hz0 hz1 hz2 rfl (by decide) v l.length _ hs hown
    ad m c (y.flatMap cells4) hx (by rw [hl4, hy.1]) ?_ ?_ (by unfold maxLen; omega) (by omega) hbase ?_
  · intro j u hj
    obtain ⟨z, hz, hu⟩ := flat_get4' y j u hj
    obtain ⟨b, off, e, hlt, q0, q1, q2, q3⟩ := hy.2 (j / 4) z hz
    cases e
    have e : (⟨b, off, none⟩ : Addr).add j = ⟨b, off + j / 4 * 4 + j % 4, none⟩ := by
      have e : (⟨b, off, none⟩ : Addr).add j = ⟨b, off + j, none⟩ := by unfold Addr.add; split <;> simp_all
      rw [e, show off + j = off + j / 4 * 4 + j % 4 by omega]
    rw [e]
    have hm4 : j % 4 < 4 := Nat.mod_lt _ (by omega)
    generalize j % 4 = k at hu hm4 ⊢
    match k, hm4 with
    | 0, _ => simp [cells4] at hu; subst hu; exact q0
    | 1, _ => simp [cells4] at hu; subst hu; exact q1
    | 2, _ => simp [cells4] at hu; subst hu; exact q2
    | 3, _ => simp [cells4] at hu; subst hu; exact q3
  · intro u hu
    obtain ⟨z, _, hz⟩ := List.mem_flatMap.1 hu
    simp only [cells4, List.mem_cons, List.not_mem_nil, or_false] at hz
    rcases hz with rfl | rfl | rfl | rfl <;> simp [Value.oneCell']
  · intro v' w' h1 h2 _
    refine h v' w' ?_ ?_
    · unfold OwnRef
      rw [List.length_append, ← hy.1, List.flatMap_append]
      exact h1
    · refine (Below.refl base w).grown h2 hbase ?_
      intro k hk
      exact (World.ownsRow.lt hown k hk).1

theorem BoxIs.keep {b B : Nat} {vs : Array Value} {W W' : World} (h : BoxIs b vs W) (hb : Below B W W') (hB : b < B) : BoxIs b vs W' :=
  ⟨Nat.lt_of_lt_of_le h.1 hb.size, fun k v hk => ⟨(hb.cell (p := ⟨b, k, none⟩) hB).trans (h.2 k v hk).1, (hb.frozen (p := ⟨b, k, none⟩) hB).trans (h.2 k v hk).2⟩⟩

theorem OwnRef.setOther {W : World} {b k : Nat} {v : Value} {l : List Cnt} (h : OwnRef W (b + 1) v l) (x : Value) : OwnRef (W.setCell ⟨b, k, none⟩ x) (b + 1) v l :=
  row_block h fun g hg => Below.heap_setCell _ _ _ _ (by have := (World.ownsRow.lt h g hg).1; show g ≠ b; omega)

end Go.Proofs.Ytlicijnaacdceaa
