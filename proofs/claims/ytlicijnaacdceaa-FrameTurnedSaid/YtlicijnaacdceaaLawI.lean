/- Stems and counts turned, in memory. No condition. -/
import Derived.Test.YtlicijnaacdceaaPlnM
import Derived.Test.YtlicijnaacdceaaLawG
import Derived.Deep.OwnRows
namespace Go.Proofs.Ytlicijnaacdceaa
open Go.RowKit

/-- append(out, l...), l the reference's counts, or none: at the operation. -/
theorem append_ref_any {ops : Array Oper} {rest : List Oper} {o : Oper} {a : Act} {w : World} {Q : Exit → Act → World → Prop} (hgd : o.guard = none) (s x : Operand)
    (ho : o.op = .call { callee := .builtin .append, args := #[s, x], argTypes := #[25, 25] })
    (base : Nat) (v : Value) (l : List Cnt) (q : Option Addr) (m c : Nat) (y : List Cnt) (hown : OwnRef w base v l) (hs : a.eval s = v) (hx : a.eval x = .slice q m c) (hy : CntsAt w q m y)
    (hlen : l.length ≤ 4000000) (hm : m ≤ 4000000) (hbase : base ≤ w.heap.size)
    (h : ∀ v' w', OwnRef w' base v' (l ++ y) → Below base w w' → (∀ k, k < w.heap.size → some k ≠ v.ownBlock → w'.heap[k]? = w.heap[k]?) → wpList Try.prog ops Q rest (a.put o.dst v') w') :
    wpList Try.prog ops Q (o :: rest) a w := by
  refine wpList_plain hgd fun K hK' => ?_
  have h1 := step_append_ref (ops := ops) (K := K) (Q := Q) (E := True) hgd s x ho base v l q m c y hown hs hx hy hlen hm hbase (fun v' w' a1 a2 a3 => hK' _ _ (h v' w' a1 a2 a3))
  rw [if_pos (by simp [Region.wanted, hgd])] at h1
  exact h1

/-- The numbers of the places, turned as far as a place. -/
def turnT (R C : Nat) (l : List Int) (k : Nat) : List Int := (List.range l.length).map fun q => if trP C R q < k then l[trP C R q]?.getD 0 else 0

section
variable {R C : Nat} {l : List Int}
theorem turnT_len (k : Nat) : (turnT R C l k).length = l.length := by simp [turnT]
theorem turnT_get {k q : Nat} (hq : q < l.length) : (turnT R C l k)[q]? = some (if trP C R q < k then l[trP C R q]?.getD 0 else 0) := by simp [turnT, hq]
theorem turnT_zero : turnT R C l 0 = List.replicate l.length 0 := by
  apply List.ext_getElem <;> simp [turnT]
theorem turnT_end (hl : l.length = R * C) : turnT R C l l.length = turnL R C l := by
  unfold turnT turnL
  refine List.map_congr_left fun q hq => ?_
  have hq := List.mem_range.1 hq
  have h : trP C R q < l.length := by rw [hl, Nat.mul_comm]; exact tr_lt (by rw [Nat.mul_comm, ← hl]; exact hq)
  rw [if_pos h]
theorem turnT_set (hl : l.length = R * C) {k : Nat} (hk : k < l.length) {z : Int} (hz : l[k]? = some z) : (turnT R C l k).set (trP R C k) z = turnT R C l (k + 1) := by
  have htk : trP R C k < l.length := by rw [hl]; exact tr_lt (by omega)
  apply List.ext_getElem?
  intro q
  by_cases hq : q < l.length
  · rw [List.getElem?_set, turnT_get hq, turnT_get hq, turnT_len]
    by_cases e : trP R C k = q
    · subst e
      rw [if_pos rfl, if_pos htk, tr_tr (by omega), if_pos (by omega), hz]; rfl
    · rw [if_neg e]
      have hne : trP C R q ≠ k := by
        intro h
        apply e
        rw [← h]
        exact tr_tr (a := C) (b := R) (p := q) (by rw [Nat.mul_comm, ← hl]; exact hq)
      have h2 : (trP C R q < k + 1) ↔ (trP C R q < k) := by omega
      simp only [h2]
  · rw [List.getElem?_eq_none (by rw [List.length_set, turnT_len]; omega), List.getElem?_eq_none (by rw [turnT_len]; omega)]
end

/-- Numbers as cells. -/
def intsV (l : List Int) : Array Value := (l.map (Value.int .i64)).toArray

theorem BoxIs.ints {g : Nat} {l : List Int} {W : World} (h : BoxIs g (intsV l) W) : IntsAt W (some ⟨g, 0, none⟩) l.length l := by
  refine ⟨rfl, fun i hi => ⟨g, 0, rfl, ?_⟩⟩
  have h1 := (h.2 i (.int .i64 l[i]) (by simp [intsV, hi])).1
  rw [Nat.zero_add, h1]
  simp [hi]

theorem BoxIs.setInt {g j : Nat} {l : List Int} {W : World} (h : BoxIs g (intsV l) W) (z : Int) : BoxIs g (intsV (l.set j z)) (W.setCell ⟨g, j, none⟩ (.int .i64 z)) := by
  have h1 := h.put (j := j) (.int .i64 z)
  have e : (intsV l).setIfInBounds j (.int .i64 z) = intsV (l.set j z) := by simp [intsV, List.map_set]
  rwa [e] at h1

theorem made_ints (n : Nat) : madeCells #[Value.int .i64 0] n = intsV (List.replicate n 0) := by
  apply Array.ext
  · simp [madeCells, intsV]
  · intro i h1 h2; simp [madeCells, intsV, Nat.mod_one]

theorem boxIs_made (w : World) (n : Nat) : BoxIs w.heap.size (intsV (List.replicate n 0)) (w.alloc (.cells (madeCells #[.int .i64 0] n) 3)) := by
  rw [made_ints]; exact BoxIs.start _ _ _

theorem Try.und22 : Try.prog.underlying 22 = some (.slice 3) := by kernel_rfl

/-- The counts, those before one turned. -/
def turnCs (R C : Nat) (cs : List Cnt) (k : Nat) : List Cnt := cs.mapIdx fun i c => if i < k then turnC R C c else c
/-- The counts, one of them at another place. -/
def placeAt (cs : List Cnt) (k : Nat) (z : Int) : List Cnt := cs.mapIdx fun i c => if i = k then ⟨z, c.lo, c.hi, c.late⟩ else c

theorem placeAt_get (cs : List Cnt) (k : Nat) (z : Int) (j : Nat) : (placeAt cs k z)[j]? = (cs[j]?).map fun c => if j = k then ⟨z, c.lo, c.hi, c.late⟩ else c := by
  unfold placeAt; rw [List.getElem?_mapIdx]
theorem placeAt_len (cs : List Cnt) (k : Nat) (z : Int) : (placeAt cs k z).length = cs.length := by unfold placeAt; simp
theorem turnCs_get (R C : Nat) (cs : List Cnt) (k j : Nat) : (turnCs R C cs k)[j]? = (cs[j]?).map fun c => if j < k then turnC R C c else c := by
  unfold turnCs; rw [List.getElem?_mapIdx]
theorem turnCs_len (R C : Nat) (cs : List Cnt) (k : Nat) : (turnCs R C cs k).length = cs.length := by unfold turnCs; simp
theorem turnCs_zero (R C : Nat) (cs : List Cnt) : turnCs R C cs 0 = cs := by
  apply List.ext_getElem?; intro j; rw [turnCs_get]; cases cs[j]? <;> simp
theorem turnCs_end (R C : Nat) (cs : List Cnt) : turnCs R C cs cs.length = cs.map (turnC R C) := by
  apply List.ext_getElem?; intro j; rw [turnCs_get, List.getElem?_map]
  by_cases h : j < cs.length
  · simp [h]
  · simp [List.getElem?_eq_none (by omega : cs.length ≤ j)]
theorem place_turn {R C : Nat} {cs : List Cnt} {k : Nat} {c : Cnt} (hc : cs[k]? = some c) : placeAt (turnCs R C cs k) k ((trP R C c.place.toNat : Nat) : Int) = turnCs R C cs (k + 1) := by
  apply List.ext_getElem?; intro j
  rw [placeAt_get, turnCs_get, turnCs_get]
  by_cases e : j = k
  · subst e; rw [hc]; simp [turnC]
  · have h2 : (j < k + 1) ↔ (j < k) := by omega
    cases cs[j]? <;> simp [e, h2]
theorem turnCs_at {R C : Nat} {cs : List Cnt} {k : Nat} {c : Cnt} (hc : cs[k]? = some c) : (turnCs R C cs k)[k]? = some c := by
  rw [turnCs_get, hc]; simp

theorem placeAt_succ (c : Cnt) (r : List Cnt) (k : Nat) (z : Int) : placeAt (c :: r) (k + 1) z = c :: placeAt r k z := by
  refine List.ext_getElem? fun j => ?_
  rw [placeAt_get]
  cases j with
  | zero => simp
  | succ j =>
    rw [List.getElem?_cons_succ, List.getElem?_cons_succ, placeAt_get]
    cases r[j]? <;> simp
theorem placeAt_zero (c : Cnt) (r : List Cnt) (z : Int) : placeAt (c :: r) 0 z = ⟨z, c.lo, c.hi, c.late⟩ :: r := by
  refine List.ext_getElem? fun j => ?_
  rw [placeAt_get]
  cases j with
  | zero => simp
  | succ j =>
    rw [List.getElem?_cons_succ, List.getElem?_cons_succ]
    cases r[j]? <;> simp
theorem flat_place (z : Int) : ∀ (cs : List Cnt) (k : Nat), k < cs.length → (cs.flatMap cells4).set (k * 4) (.int .i64 z) = (placeAt cs k z).flatMap cells4
  | [], k, h => by simp at h
  | c :: r, 0, _ => by
    rw [placeAt_zero]
    simp [cells4]
  | c :: r, k + 1, h => by
    rw [placeAt_succ, List.flatMap_cons, List.flatMap_cons, ← flat_place z r k (by simpa using h)]
    rw [List.set_append_right _ _ (by show 4 ≤ _; omega)]
    have e : (k + 1) * 4 - (cells4 c).length = k * 4 := by show (k + 1) * 4 - 4 = _; omega
    rw [e]

/-- A count's place is set. -/
theorem OwnRef.place {W : World} {base g n cap : Nat} {cs : List Cnt} (hn : n = cs.length) (h : OwnRef W base (.slice (some ⟨g, 0, none⟩) n cap) cs) {k : Nat} (hk : k < cs.length) (z : Int) :
    OwnRef (W.setCell ⟨g, k * 4, none⟩ (.int .i64 z)) base (.slice (some ⟨g, 0, none⟩) n cap) (placeAt cs k z) := by
  subst hn
  unfold OwnRef at h ⊢
  rw [placeAt_len, ← flat_place z cs k hk]
  exact (World.ownsRow.stored h _ _).1
theorem beforeB_selfN : ∀ l : List Int, beforeB l l = false
  | [] => rfl
  | a :: l => by rw [beforeB, if_pos rfl, beforeB_selfN l]
theorem sameB_selfN (l : List Int) : sameB l l = true := by unfold sameB; rw [beforeB_selfN]; simp

theorem sameN_any (p : Option Addr) (n c : Nat) (l : List Int) (q : Option Addr) (m d : Nat) (h : List Int) (w : World) (hl : IntsAt w p n l) (hh : IntsAt w q m h) (hn : n ≤ 1000000) (hm : m ≤ 1000000) :
    Calls Try.prog 29 #[.slice p n c, .slice q m d] w fun e w' => e = .returned (.bool (sameB l h)) ∧ Below w.heap.size w w' :=
  (same_any p n c l q m d h w hl hh hn hm).mono fun _ _ ⟨h1, k, h2⟩ => ⟨h1, h2 ▸ below_drewN (Below.refl _ _) k⟩
end Go.Proofs.Ytlicijnaacdceaa
