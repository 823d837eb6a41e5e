/- Slices of structs: how they read, slices that a call owns, append. No condition. -/
import Derived.Test.YtfnefkenheglhaaBox
import Derived.Laws.OwnMore
namespace Go.Proofs.Ytfnefkenheglhaa
open Go.RowKit

/-- The slice 'p, n' of elements of z cells reads as l. -/
def RowsAt {α : Type} (enc : α → List Value) (z : Nat) (w : World) (p : Option Addr) (n : Nat) (l : List α) : Prop :=
  n = l.length ∧ ∀ i c, l[i]? = some c → ∃ b off, p = some ⟨b, off, none⟩ ∧ b < w.heap.size ∧ ∀ j v, (enc c)[j]? = some v → w.cell? ⟨b, off + i * z + j, none⟩ = some v

theorem RowsAt.kept {α : Type} {enc : α → List Value} {z : Nat} {w w' : World} {p : Option Addr} {n : Nat} {l : List α} (h : RowsAt enc z w p n l) (hs : w.heap.size ≤ w'.heap.size)
    (hb : ∀ a, p = some a → 0 < n → a.block < w.heap.size → w'.heap[a.block]? = w.heap[a.block]?) : RowsAt enc z w' p n l := by
  refine ⟨h.1, fun i k hi => ?_⟩
  obtain ⟨b, off, hp, hlt, h0⟩ := h.2 i k hi
  have hk : w'.heap[b]? = w.heap[b]? := hb _ hp (by have := (List.getElem?_eq_some_iff.1 hi).1; have := h.1; omega) hlt
  exact ⟨b, off, hp, Nat.lt_of_lt_of_le hlt hs, fun j v hj => (World.cell?_of_block hk).trans (h0 j v hj)⟩
theorem RowsAt.below {α : Type} {enc : α → List Value} {z : Nat} {w w' : World} {p : Option Addr} {n : Nat} {l : List α} (h : RowsAt enc z w p n l) (hb : Below w.heap.size w w') : RowsAt enc z w' p n l :=
  h.kept hb.size fun _a _ _ hlt => hb.block _ hlt
theorem RowsAt.at {α : Type} {enc : α → List Value} {z : Nat} {w : World} {p : Option Addr} {n : Nat} {l : List α} (h : RowsAt enc z w p n l) {i : Nat} (hi : i < n) :
    ∃ c, l[i]? = some c ∧ ∃ b off, p = some ⟨b, off, none⟩ ∧ b < w.heap.size ∧ ∀ j v, (enc c)[j]? = some v → w.cell? ⟨b, off + i * z + j, none⟩ = some v := by
  have hk : l[i]? = some (l[i]'(by have := h.1; omega)) := List.getElem?_eq_getElem _
  exact ⟨_, hk, h.2 i _ hk⟩

theorem flat_get {α : Type} {enc : α → List Value} {z : Nat} (hz : ∀ c, (enc c).length = z) : ∀ (T : List α) (i j : Nat) (h : α) (v : Value), T[i]? = some h → (enc h)[j]? = some v → (T.flatMap enc)[i * z + j]? = some v
  | [], i, j, h, v, hi, _ => by simp at hi
  | t :: T, i, j, h, v, hi, hj => by
    have hl := hz t
    have hj4 : j < z := by rw [← hz h]; exact (List.getElem?_eq_some_iff.1 hj).1
    rw [List.flatMap_cons]
    cases i with
    | zero =>
      simp at hi; subst hi
      rw [List.getElem?_append_left (by rw [hl]; omega)]
      simpa using hj
    | succ i =>
      rw [List.getElem?_append_right (by rw [hl, Nat.succ_mul]; omega), hl, show (i + 1) * z + j - z = i * z + j by rw [Nat.succ_mul]; omega]
      exact flat_get hz T i j h v (by simpa using hi) hj
theorem flat_get' {α : Type} {enc : α → List Value} {z : Nat} (hz : ∀ c, (enc c).length = z) (h0 : 0 < z) : ∀ (T : List α) (j : Nat) (u : Value), (T.flatMap enc)[j]? = some u → ∃ c, T[j / z]? = some c ∧ (enc c)[j % z]? = some u
  | [], j, u, h => by simp at h
  | t :: T, j, u, h => by
    have hl := hz t
    rw [List.flatMap_cons] at h
    by_cases hj : j < z
    · rw [List.getElem?_append_left (by rw [hl]; omega)] at h
      refine ⟨t, ?_, ?_⟩
      · rw [Nat.div_eq_of_lt hj]; rfl
      · rw [Nat.mod_eq_of_lt hj]; exact h
    · rw [List.getElem?_append_right (by rw [hl]; omega), hl] at h
      obtain ⟨c, h1, h2⟩ := flat_get' hz h0 T (j - z) u h
      have e : j = j - z + z := by omega
      refine ⟨c, ?_, ?_⟩
      · rw [e, Nat.add_div_right _ h0]; simpa using h1
      · rw [e, Nat.add_mod_right]; exact h2
theorem flat_len {α : Type} {enc : α → List Value} {z : Nat} (hz : ∀ c, (enc c).length = z) : ∀ T : List α, (T.flatMap enc).length = T.length * z
  | [] => by simp
  | t :: T => by rw [List.flatMap_cons, List.length_append, flat_len hz T, hz, List.length_cons, Nat.succ_mul]; omega

/-- The slice value v is the call's own, and reads as l. -/
def OwnRows {α : Type} (enc : α → List Value) (z : Nat) (T : TypeId) (w : World) (base : Nat) (v : Value) (l : List α) : Prop := w.ownsRow base T z v l.length (l.flatMap enc)
theorem row_block {W W' : World} {base : Nat} {e : TypeId} {size : Nat} {v : Value} {n : Nat} {xs : List Value} (h : W.ownsRow base e size v n xs) (hb : ∀ g, v.ownBlock = some g → W'.heap[g]? = W.heap[g]?) : W'.ownsRow base e size v n xs := by
  refine ⟨h.1, ?_⟩
  rcases h.2 with h0 | ⟨g, cap, cur, hv, hg, hh, r⟩
  · exact .inl h0
  · exact .inr ⟨g, cap, cur, hv, hg, (hb g (by rw [hv]; rfl)).trans hh, r⟩
theorem OwnRows.slice {α : Type} {enc : α → List Value} {z : Nat} {T : TypeId} (hz : ∀ c, (enc c).length = z) {w : World} {base : Nat} {v : Value} {l : List α} (h : OwnRows enc z T w base v l) :
    ∃ p c, v = .slice p l.length c ∧ RowsAt enc z w p l.length l := by
  rcases h.2 with ⟨rfl, h0⟩ | ⟨g, cap, cur, rfl, hg, hh, hn, hm, hs, ht⟩
  · exact ⟨none, 0, by rw [h0], rfl, fun i c hi => by have := (List.getElem?_eq_some_iff.1 hi).1; omega⟩
  · refine ⟨_, cap, rfl, rfl, fun i c hi => ⟨g, 0, rfl, (Array.getElem?_eq_some_iff.1 hh).1, fun j v hj => ?_⟩⟩
    have hc := World.ownsRow.cells h (g := g) rfl (i * z + j) v (flat_get hz l i j c v hi hj)
    have e : ∀ y : Nat, (⟨g, 0, none⟩ : Addr).add y = ⟨g, 0 + y, none⟩ := fun y => by unfold Addr.add; split <;> simp_all
    rw [e] at hc
    rw [show 0 + i * z + j = 0 + (i * z + j) by omega]
    exact hc
theorem OwnRows.mono {α : Type} {enc : α → List Value} {z : Nat} {T : TypeId} {w : World} {base base' : Nat} {v : Value} {l : List α} (h : OwnRows enc z T w base v l) (hb : base' ≤ base) : OwnRows enc z T w base' v l := by
  refine ⟨h.1, ?_⟩
  rcases h.2 with h0 | ⟨g, cap, cur, hv, hg, r⟩
  · exact .inl h0
  · exact .inr ⟨g, cap, cur, hv, Nat.le_trans hb hg, r⟩
theorem OwnRows.block {α : Type} {enc : α → List Value} {z : Nat} {T : TypeId} {w w' : World} {base : Nat} {v : Value} {l : List α} (h : OwnRows enc z T w base v l) (hb : ∀ g, v.ownBlock = some g → w'.heap[g]? = w.heap[g]?) : OwnRows enc z T w' base v l := row_block h hb
theorem OwnRows.lt {α : Type} {enc : α → List Value} {z : Nat} {T : TypeId} {w : World} {base : Nat} {v : Value} {l : List α} (h : OwnRows enc z T w base v l) : ∀ g, v.ownBlock = some g → base ≤ g ∧ g < w.heap.size := fun g hg => World.ownsRow.lt h g hg
theorem OwnRows.below {α : Type} {enc : α → List Value} {z : Nat} {T : TypeId} {w w' : World} {base : Nat} {v : Value} {l : List α} (h : OwnRows enc z T w base v l) (hb : Below w.heap.size w w') : OwnRows enc z T w' base v l :=
  row_block h fun g hg => hb.block g (World.ownsRow.lt h g hg).2
theorem ownRows_nil {α : Type} (enc : α → List Value) (z : Nat) (T : TypeId) (w : World) (base : Nat) : OwnRows enc z T w base (.slice none 0 0) ([] : List α) := World.ownsRow_nil _ _ _ _

/-- append(out, l...), l elements that lie somewhere: at the operation. -/
theorem append_rows {α : Type} {enc : α → List Value} {z : Nat} (hz : ∀ c, (enc c).length = z) (h0 : 0 < z) (hone : ∀ c, ∀ u ∈ enc c, u.oneCell' = true) (sl T : TypeId) (zero : Value) (bytes : Nat) (hby : bytes ≤ 1000)
    (hinfo : (Try.prog.info? T).map (fun i => (i.zero, i.size, i.bytes)) = some (some zero, z, bytes)) (hzero : zero.cells.size = z) (hund : Try.prog.underlying sl = some (.slice T))
    {ops : Array Oper} {rest : List Oper} {o : Oper} {a : Act} {w : World} {Q : Exit → Act → World → Prop} (hgd : o.guard = none) (s x : Operand)
    (ho : o.op = .call { callee := .builtin .append, args := #[s, x], argTypes := #[sl, sl] })
    (base : Nat) (v : Value) (l : List α) (ad : Addr) (m c : Nat) (y : List α) (hown : OwnRows enc z T w base v l) (hs : a.eval s = v) (hx : a.eval x = .slice (some ad) m c) (hy : RowsAt enc z w (some ad) m y)
    (hlen : l.length ≤ 1000000) (hm : m ≤ 1000000) (hbase : base ≤ w.heap.size)
    (h : ∀ v' w', OwnRows enc z T w' base v' (l ++ y) → Below base w w' → (∀ k, k < w.heap.size → some k ≠ v.ownBlock → w'.heap[k]? = w.heap[k]?) → wpList Try.prog ops Q rest (a.put o.dst v') w') :
    wpList Try.prog ops Q (o :: rest) a w := by
  obtain ⟨i0, hi, hz0, hz1, hz2⟩ := info_parts hinfo
  refine wpList_append_own _ hgd s x sl ho base T i0 zero z bytes hund hi hz0 hz1 hz2 hzero h0 v l.length _ hs hown ad m c (y.flatMap enc) hx (by rw [flat_len hz, hy.1]) ?_ ?_ (by unfold maxLen; omega) ?_ hbase ?_
  · intro j u hj
    obtain ⟨k, hk, hu⟩ := flat_get' hz h0 y j u hj
    obtain ⟨b, off, e, hlt, q⟩ := hy.2 (j / z) k hk
    cases e
    have e : (⟨b, off, none⟩ : Addr).add j = ⟨b, off + j / z * z + j % z, none⟩ := by
      have e : (⟨b, off, none⟩ : Addr).add j = ⟨b, off + j, none⟩ := by unfold Addr.add; split <;> simp_all
      rw [e]
      have := Nat.div_add_mod' j z
      rw [show off + j = off + j / z * z + j % z by omega]
    rw [e]
    exact q _ _ hu
  · intro u hu
    obtain ⟨k, _, hk⟩ := List.mem_flatMap.1 hu
    exact hone k u hk
  · have : (l.length + m) * bytes ≤ 2000000 * 1000 := Nat.mul_le_mul (by omega) hby
    omega
  · intro v' w' h1 h2 _
    refine h v' w' ?_ ?_ fun k hk hne => h2.block k hk hne
    · unfold OwnRows
      rw [List.length_append, ← hy.1, List.flatMap_append]
      exact h1
    · refine (Below.refl base w).grown h2 hbase ?_
      intro k hk
      exact (World.ownsRow.lt hown k hk).1

/-- The cells of a truth, of a card. -/
def cellsT (t : Tru) : List Value := [.int .i64 t.a, .int .i64 t.b, .int .i64 t.half, .int .i64 t.peak]
def cellsK (k : Crd) : List Value := [.int .i64 k.x.lo, .int .i64 k.x.hi, .int .i64 k.y.lo, .int .i64 k.y.hi, .bool k.hail, .int .i64 k.size.lo, .int .i64 k.size.hi]
theorem cellsT_len (t : Tru) : (cellsT t).length = 4 := rfl
theorem cellsK_len (t : Crd) : (cellsK t).length = 7 := rfl
theorem cellsT_one (t : Tru) : ∀ u ∈ cellsT t, u.oneCell' = true := by
  intro u hu
  simp only [cellsT, List.mem_cons, List.not_mem_nil, or_false] at hu
  rcases hu with rfl | rfl | rfl | rfl <;> rfl
theorem cellsK_one (t : Crd) : ∀ u ∈ cellsK t, u.oneCell' = true := by
  intro u hu
  simp only [cellsK, List.mem_cons, List.not_mem_nil, or_false] at hu
  rcases hu with rfl | rfl | rfl | rfl | rfl | rfl | rfl <;> rfl
def TrusAt := RowsAt cellsT 4
theorem crds_iff {w : World} {p : Option Addr} {n : Nat} {l : List Crd} : CrdsAt w p n l ↔ RowsAt cellsK 7 w p n l := by
  constructor
  · rintro ⟨h, hc⟩
    refine ⟨h, fun i k hi => ?_⟩
    obtain ⟨b, off, hp, hlt, h0, h1, h2, h3, h4, h5, h6⟩ := hc i k hi
    refine ⟨b, off, hp, hlt, fun j v hj => ?_⟩
    have hj7 : j < 7 := (List.getElem?_eq_some_iff.1 hj).1
    match j, hj7 with
    | 0, _ => cases hj; exact h0
    | 1, _ => cases hj; exact h1
    | 2, _ => cases hj; exact h2
    | 3, _ => cases hj; exact h3
    | 4, _ => cases hj; exact h4
    | 5, _ => cases hj; exact h5
    | 6, _ => cases hj; exact h6
  · rintro ⟨h, hc⟩
    refine ⟨h, fun i k hi => ?_⟩
    obtain ⟨b, off, hp, hlt, q⟩ := hc i k hi
    exact ⟨b, off, hp, hlt, q 0 _ rfl, q 1 _ rfl, q 2 _ rfl, q 3 _ rfl, q 4 _ rfl, q 5 _ rfl, q 6 _ rfl⟩
theorem Try.info92 : (Try.prog.info? 92).map (fun i => (i.zero, i.size, i.bytes)) = some (some (.agg #[.int .i64 0, .int .i64 0, .int .i64 0, .int .i64 0]), 4, 32) := by kernel_rfl
theorem Try.info94 : (Try.prog.info? 94).map (fun i => (i.zero, i.size, i.bytes)) = some (some (.agg #[.int .i64 0, .int .i64 0, .int .i64 0, .int .i64 0]), 4, 32) := by kernel_rfl
theorem Try.info61 : (Try.prog.info? 61).map (fun i => (i.zero, i.size, i.bytes)) = some (some (.agg #[.int .i64 0, .int .i64 0, .int .i64 0, .int .i64 0, .bool false, .int .i64 0, .int .i64 0]), 7, 56) := by kernel_rfl
theorem Try.info119 : (Try.prog.info? 119).map (fun i => (i.zero, i.size, i.bytes)) = some (some (.agg #[.int .i64 0, .int .i64 0, .int .i64 0, .int .i64 0, .bool false, .int .i64 0, .int .i64 0]), 7, 56) := by kernel_rfl
theorem Try.und39 : Try.prog.underlying 39 = some (.slice 92) := by kernel_rfl
theorem Try.und121 : Try.prog.underlying 121 = some (.slice 94) := by kernel_rfl
theorem Try.und24 : Try.prog.underlying 24 = some (.slice 61) := by kernel_rfl
theorem Try.und33 : Try.prog.underlying 33 = some (.slice 119) := by kernel_rfl
/-- A literal of one truth, and of one card. -/
theorem tru_lit {w : World} (t : Tru) (T : TypeId) : RowsAt cellsT 4 (w.alloc (.cells #[.int .i64 t.a, .int .i64 t.b, .int .i64 t.half, .int .i64 t.peak] T)) (some ⟨w.heap.size, 0, none⟩) 1 [t] := by
  refine ⟨rfl, fun i c hi => ⟨w.heap.size, 0, rfl, by simp, fun j v hj => ?_⟩⟩
  have hi0 : i = 0 := by have := (List.getElem?_eq_some_iff.1 hi).1; simp at this; omega
  subst hi0
  cases hi
  rw [show 0 + 0 * 4 + j = j by omega]
  exact cell_box w _ T j v (by simpa [cellsT] using hj)
theorem crd_lit {w : World} (k : Crd) (T : TypeId) : RowsAt cellsK 7 (w.alloc (.cells #[.int .i64 k.x.lo, .int .i64 k.x.hi, .int .i64 k.y.lo, .int .i64 k.y.hi, .bool k.hail, .int .i64 k.size.lo, .int .i64 k.size.hi] T)) (some ⟨w.heap.size, 0, none⟩) 1 [k] := by
  refine ⟨rfl, fun i c hi => ⟨w.heap.size, 0, rfl, by simp, fun j v hj => ?_⟩⟩
  have hi0 : i = 0 := by have := (List.getElem?_eq_some_iff.1 hi).1; simp at this; omega
  subst hi0
  cases hi
  rw [show 0 + 0 * 7 + j = j by omega]
  exact cell_box w _ T j v (by simpa [cellsK] using hj)
end Go.Proofs.Ytfnefkenheglhaa
