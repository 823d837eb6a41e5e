/- Surveys in boxes, slices of the reference's counts: for the laws that change a survey. No condition. -/
import Derived.Test.YtlicijnaacdceaaLawD
import Derived.Test.YtlicijnaacdceaaLawB
import Derived.Deep.AppendLies
import Derived.Deep.AppendSrc
import Derived.Deep.Upon
namespace Go.Proofs.Ytlicijnaacdceaa
open Go.RowKit

theorem Try.info59 : (Try.prog.info? 59).map (fun i => (i.zero, i.size, i.bytes)) = some (some (.agg #[.int .i64 0, .int .i64 0, .int .i64 0, .bool false]), 4, 32) := by kernel_rfl
theorem Try.und25 : Try.prog.underlying 25 = some (.slice 59) := by kernel_rfl

/-- A slice of the reference's counts, own. -/
def OwnRef (w : World) (base : Nat) (v : Value) (l : List Cnt) : Prop := w.ownsRow base 59 4 v l.length (l.flatMap cells4)

theorem OwnRef.slice {w : World} {base : Nat} {v : Value} {l : List Cnt} (h : OwnRef w base v l) : ∃ p c, v = .slice p l.length c ∧ CntsAt w p l.length l := by
  rcases h.2 with ⟨rfl, h0⟩ | ⟨g, cap, cur, rfl, hg, hh, hn, hm, hs, ht⟩
  · exact ⟨none, 0, by rw [h0], rfl, fun i c hi => by have := (List.getElem?_eq_some_iff.1 hi).1; omega⟩
  · refine ⟨_, cap, rfl, rfl, fun i c hi => ⟨g, 0, rfl, (Array.getElem?_eq_some_iff.1 hh).1, ?_⟩⟩
    have hc : ∀ j v, (cells4 c)[j]? = some v → w.cell? ⟨g, 0 + i * 4 + j, none⟩ = some v := by
      intro j v hj
      have hc := World.ownsRow.cells h (g := g) rfl (i * 4 + j) v (flat_get4 l i j c v hi hj)
      have e : ∀ z : Nat, (⟨g, 0, none⟩ : Addr).add z = ⟨g, 0 + z, none⟩ := fun z => by unfold Addr.add; split <;> simp_all
      rw [e] at hc
      rw [show 0 + i * 4 + j = 0 + (i * 4 + j) by omega]
      exact hc
    exact ⟨by have := hc 0 _ rfl; simpa using this, hc 1 _ rfl, hc 2 _ rfl, hc 3 _ rfl⟩

theorem OwnRef.below {w w' : World} {base : Nat} {v : Value} {l : List Cnt} (h : OwnRef w base v l) (hb : Below w.heap.size w w') : OwnRef w' base v l := row_block h fun g hg => hb.block g (World.ownsRow.lt h g hg).2

theorem ownRef_nil (w : World) {base : Nat} (hb : base ≤ w.heap.size) : OwnRef (w.alloc (.cells #[] 59)) base (.slice (some ⟨w.heap.size, 0, none⟩) 0 0) [] := World.ownsRow_lit w #[] 0 hb (by decide) rfl

theorem ownRef_one (w : World) (x : Cnt) : OwnRef (w.alloc (.cells #[.int .i64 x.place, .int .i64 x.lo, .int .i64 x.hi, .bool x.late] 59)) w.heap.size (.slice (some ⟨w.heap.size, 0, none⟩) 1 1) [x] :=
  World.ownsRow_lit w #[.int .i64 x.place, .int .i64 x.lo, .int .i64 x.hi, .bool x.late] 1 (Nat.le_refl _) (by decide) rfl

theorem flat4_len (T : List Cnt) : (T.flatMap cells4).length = T.length * 4 := by
  induction T with
  | nil => rfl
  | cons t T ih => rw [List.flatMap_cons, List.length_append, ih, List.length_cons]; show 4 + _ = _; omega

/-- append(out, l...) at the operation, l the reference's counts that lie somewhere. -/
theorem step_append_ref {ops : Array Oper} {o : Oper} {a : Act} {w : World} {K : Act → World → Prop} {Q : Exit → Act → World → Prop} {E : Prop} (hgd : o.guard = none) (s x : Operand)
    (ho : o.op = .call { callee := .builtin .append, args := #[s, x], argTypes := #[25, 25] })
    (base : Nat) (v : Value) (l : List Cnt) (q : Option Addr) (m c : Nat) (y : List Cnt) (hown : OwnRef w base v l) (hs : a.eval s = v) (hx : a.eval x = .slice q m c) (hy : CntsAt w q m y)
    (hlen : l.length ≤ 4000000) (hm : m ≤ 4000000) (hbase : base ≤ w.heap.size)
    (h : ∀ v' w', OwnRef w' base v' (l ++ y) → Below base w w' → (∀ k, k < w.heap.size → some k ≠ v.ownBlock → w'.heap[k]? = w.heap[k]?) → K (a.put o.dst v') w') :
    if Region.wanted o (yielded ops a.tmps) = true then Oper.wp Try.prog o a w K Q else E := by
  obtain ⟨i0, hi, hz0, hz1, hz2⟩ := info_parts Try.info59
  by_cases hm0 : m = 0
  · subst hm0
    have hy0 : y = [] := List.length_eq_zero_iff.1 hy.1.symm
    subst hy0
    have hw : Region.wanted o (yielded ops a.tmps) = true := by simp [Region.wanted, hgd]
    rw [if_pos hw]
    obtain ⟨ap, cp, hle, rfl⟩ : ∃ ap cp, l.length ≤ cp ∧ v = .slice ap l.length cp := by
      rcases hown.2 with ⟨rfl, h0⟩ | ⟨g, cap, cur, rfl, hg, hh, hn, hm, _⟩
      · exact ⟨none, 0, by omega, by rw [h0]⟩
      · exact ⟨_, cap, by omega, rfl⟩
    have hsrc : Src Try.prog i0.size 25 (.slice q 0 c) 0 [] w := by
      cases q with
      | none => exact Src.ofNil w Try.und25 c
      | some ad => exact Src.ofSlice w Try.und25 ad 0 c [] (by simp) (by simp) (by simp)
    have hr := run_append_nothing (P := Try.prog) w 25 25 o.type 59 i0 Try.und25 hi ap l.length cp hle (.slice q 0 c) hsrc
    unfold Oper.wp execOp
    simp only [ho, resolve, invoke, builtin, Sem.run_bind, Sem.run_pure, Result.andThen_ok, List.map_toArray, List.map_cons, List.map_nil, hs, hx, hr]
    exact h _ _ (by rw [List.append_nil]; exact hown) (Below.refl _ _) (fun _ _ _ => rfl)
  · obtain ⟨z0, hz⟩ : ∃ z, y[0]? = some z := ⟨y[0]'(by have := hy.1; omega), List.getElem?_eq_getElem _⟩
    obtain ⟨b, off, hq, _⟩ := hy.2 0 z0 hz
    subst hq
    refine step_append_lies w hgd s x 25 ho base 59 i0 _ 4 32 Try.und25 hi hz0 hz1 hz2 rfl (by decide) v l.length _ hs hown ⟨b, off, none⟩ m c (y.flatMap cells4) hx (by rw [flat4_len, hy.1]) ?_ ?_ (by omega) (by unfold maxLen; omega) (by omega) hbase w.heap.size rfl ?_
    · intro j u hj
      obtain ⟨z, hz, hu⟩ := flat_get4' y j u hj
      obtain ⟨b', off', e, hlt, q0, q1, q2, q3⟩ := hy.2 (j / 4) z hz
      cases e
      have e : (⟨b, off, none⟩ : Addr).add j = ⟨b, off + j / 4 * 4 + j % 4, none⟩ := by
        have e : (⟨b, off, none⟩ : Addr).add j = ⟨b, off + j, none⟩ := by unfold Addr.add; split <;> simp_all
        rw [e, show off + j = off + j / 4 * 4 + j % 4 by omega]
      rw [e]
      have hm4 : j % 4 < 4 := Nat.mod_lt _ (by omega)
      generalize j % 4 = k at hu hm4 ⊢
      match k, hm4 with
      | 0, _ => simp [cells4] at hu; subst hu; exact q0
      | 1, _ => simp [cells4] at hu; subst hu; exact q1
      | 2, _ => simp [cells4] at hu; subst hu; exact q2
      | 3, _ => simp [cells4] at hu; subst hu; exact q3
    · intro u hu
      obtain ⟨z, _, hz⟩ := List.mem_flatMap.1 hu
      simp only [cells4, List.mem_cons, List.not_mem_nil, or_false] at hz
      rcases hz with rfl | rfl | rfl | rfl <;> simp [Value.oneCell']
    · intro g cap w' h1 h2 h3 h4
      refine h _ w' ?_ ?_ (fun k hk hne => h2.block k hk hne)
      · unfold OwnRef
        rw [List.length_append, ← hy.1, List.flatMap_append]
        exact h1
      · refine (Below.refl base w).grown h2 hbase ?_
        intro k hk
        exact (World.ownsRow.lt hown k hk).1

/-- A survey in a box, wherever that lies. -/
structure SBox (b : Nat) (r cc : Int) (p : Option Addr) (n c : Nat) (l : List Int) (sm : Int) (q : Option Addr) (m d : Nat) (cs : List Cnt) (W : World) : Prop where
  lt : b < W.heap.size
  c0 : W.cell? ⟨b, 0, none⟩ = some (.int .i64 r)
  c1 : W.cell? ⟨b, 1, none⟩ = some (.int .i64 cc)
  c2 : W.cell? ⟨b, 2, none⟩ = some (.slice p n c)
  c3 : W.cell? ⟨b, 3, none⟩ = some (.int .i64 sm)
  c4 : W.cell? ⟨b, 4, none⟩ = some (.slice q m d)
  ints : IntsAt W p n l
  cnts : CntsAt W q m cs

theorem SBox.below {b : Nat} {r cc : Int} {p : Option Addr} {n c : Nat} {l : List Int} {sm : Int} {q : Option Addr} {m d : Nat} {cs : List Cnt} {W W' : World} (h : SBox b r cc p n c l sm q m d cs W) (hb : Below W.heap.size W W') : SBox b r cc p n c l sm q m d cs W' :=
  ⟨Nat.lt_of_lt_of_le h.lt hb.size, (hb.cell (p := ⟨b, 0, none⟩) h.lt).trans h.c0, (hb.cell (p := ⟨b, 1, none⟩) h.lt).trans h.c1, (hb.cell (p := ⟨b, 2, none⟩) h.lt).trans h.c2, (hb.cell (p := ⟨b, 3, none⟩) h.lt).trans h.c3, (hb.cell (p := ⟨b, 4, none⟩) h.lt).trans h.c4, h.ints.below hb, h.cnts.below hb⟩
end Go.Proofs.Ytlicijnaacdceaa
