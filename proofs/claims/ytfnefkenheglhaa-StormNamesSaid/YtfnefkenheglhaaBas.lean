/- How slices and boxes read in a world; small facts for the walks over package storm, its reference and its statements. No condition. -/
import Derived.Test.YtfnefkenheglhaaRows
import Derived.Test.YtfnefkenheglhaaPlA
import Derived.WalkKit
import Derived.WalkSpells
import Derived.WalkLawsBesides
import Derived.BigQuiet
import Derived.Deep.QuietTactic
import Derived.Deep.RegionHeld3
import Derived.Deep.Cut
namespace Go.Proofs.Ytfnefkenheglhaa
open Go.RowKit

section
variable {P : Program} {ops : Array Oper} {Q : Exit → Act → World → Prop} {md : Region.Mode} {S : World → Prop} {i : Nat} {oi : Oper} {v : Value} {fuel : Nat} {listed : Array Bool} {a : Act} {w : World}
/-- wpAnyH_take with what is always so. -/
theorem tkH (hv : ∀ w, S w → (execOp a.eval oi).run P w = .ok (.value v) w) (h : wpAnyH P md ops Q S fuel (listed.setIfInBounds i true) (a.put oi.dst v) w)
    (hi : ops[i]? = some oi := by rfl) (hs : Region.noSelect ops = true := by kernel_rfl) (hf : Region.free md ops listed i = true := by kernel_rfl) (hr : (Region.ready md ops listed).contains i = true := by kernel_rfl)
    (hQ : ∀ c a w, Q (.panic c) (a.put oi.dst v) w → Q (.panic c) a w := by exact fun _ _ _ h => h) (hw : Region.wanted oi (yielded ops a.tmps) = true := by rfl) (hS : S w := by assumption) : wpAnyH P md ops Q S (fuel + 1) listed a w :=
  wpAnyH_take hi hs hf hr hQ (Or.inl ⟨hw, hv⟩) hS h
/-- .. of an operation that is passed over. -/
theorem tkU (h : wpAnyH P md ops Q S fuel (listed.setIfInBounds i true) (a.put oi.dst undef) w)
    (hi : ops[i]? = some oi := by rfl) (hs : Region.noSelect ops = true := by kernel_rfl) (hf : Region.free md ops listed i = true := by kernel_rfl) (hr : (Region.ready md ops listed).contains i = true := by kernel_rfl)
    (hQ : ∀ c a w, Q (.panic c) (a.put oi.dst undef) w → Q (.panic c) a w := by exact fun _ _ _ h => h) (hw : Region.wanted oi (yielded ops a.tmps) = false := by rfl) (hS : S w := by assumption) : wpAnyH P md ops Q S (fuel + 1) listed a w :=
  wpAnyH_take hi hs hf hr hQ (Or.inr ⟨hw, rfl⟩) hS h
end

theorem hid {p : Prop} (h : p) : Hid p := h

theorem bcell {W w1 : World} (hb : Below W.heap.size W w1) : (∀ b o, b < W.heap.size → w1.cell? ⟨b, o, none⟩ = W.cell? ⟨b, o, none⟩) ∧ (∀ b o, b < W.heap.size → w1.frozen? ⟨b, o, none⟩ = W.frozen? ⟨b, o, none⟩) :=
  ⟨fun b o h => hb.cell (p := ⟨b, o, none⟩) h, fun b o h => hb.frozen (p := ⟨b, o, none⟩) h⟩

theorem ret_int {k : IntKind} {a b : Int} (h : a = b) : Ending.returned (.int k a) = .returned (.int k b) := by rw [h]

theorem ret_bool {a b : Bool} (h : a = b) : Ending.returned (.bool a) = .returned (.bool b) := by rw [h]

/-- The slice 'p, n' reads as the numbers l. -/
def IntsAt (w : World) (p : Option Addr) (n : Nat) (l : List Int) : Prop :=
  n = l.length ∧ ∀ i, i < n → ∃ b off, p = some ⟨b, off, none⟩ ∧ w.cell? ⟨b, off + i, none⟩ = some (.int .i64 (l[i]?.getD 0))

theorem IntsAt.below {w w' : World} {p n l} (h : IntsAt w p n l) (hb : Below w.heap.size w w') : IntsAt w' p n l := by
  refine ⟨h.1, fun i hi => ?_⟩
  obtain ⟨b, off, hp, hc⟩ := h.2 i hi
  exact ⟨b, off, hp, (hb.cell (p := ⟨b, off + i, none⟩) (World.block_lt_of_cell? w _ hc)).trans hc⟩

theorem IntsAt.alloc {w : World} {p n l} (h : IntsAt w p n l) (o : Obj) : IntsAt (w.alloc o) p n l :=
  h.below ((Below.refl _ _).alloc (Nat.le_refl _) o)

theorem IntsAt.drew {w : World} {p n l} (h : IntsAt w p n l) : IntsAt w.drew p n l := h

theorem IntsAt.at {w : World} {p n l} (h : IntsAt w p n l) {i : Nat} (hi : i < n) : ∃ b off, p = some ⟨b, off, none⟩ ∧ b < w.heap.size ∧ w.cell? ⟨b, off + i, none⟩ = some (.int .i64 (l[i]?.getD 0)) := by
  obtain ⟨b, off, hp, hc⟩ := h.2 i hi
  exact ⟨b, off, hp, World.block_lt_of_cell? w _ hc, hc⟩

theorem drop_at (l : List Int) (k : Nat) (h : k < l.length) : l.drop k = l[k]?.getD 0 :: l.drop (k + 1) := by
  rw [List.drop_eq_getElem_cons h]; simp [h]

/-- f at k, k + 1, .., k + m - 1. -/
def allR (f : Nat → Bool) : Nat → Nat → Bool
  | _, 0 => true
  | k, m + 1 => f k && allR f (k + 1) m

theorem allR_iff (f : Nat → Bool) (k m : Nat) : allR f k m = true ↔ ∀ i, k ≤ i → i < k + m → f i = true := by
  induction m generalizing k with
  | zero => simp [allR]; omega
  | succ m ih =>
    simp only [allR, Bool.and_eq_true, ih]
    constructor
    · rintro ⟨h1, h2⟩ i hk hi
      by_cases e : i = k
      · subst e; exact h1
      · exact h2 i (by omega) (by omega)
    · intro h
      exact ⟨h k (Nat.le_refl _) (by omega), fun i hk hi => h i (by omega) (by omega)⟩

theorem allR_go (f : Nat → Bool) (k n : Nat) (h : k < n) : allR f k (n - k) = (f k && allR f (k + 1) (n - (k + 1))) := by
  have e : n - k = (n - (k + 1)) + 1 := by omega
  rw [e]; rfl

theorem allR_end (f : Nat → Bool) (k n : Nat) (h : ¬ k < n) : allR f k (n - k) = true := by
  have e : n - k = 0 := by omega
  rw [e]; rfl

/-- f at k, or k + 1, .., or k + m - 1. -/
def anyR (f : Nat → Bool) : Nat → Nat → Bool
  | _, 0 => false
  | k, m + 1 => f k || anyR f (k + 1) m

theorem anyR_go (f : Nat → Bool) (k n : Nat) (h : k < n) : anyR f k (n - k) = (f k || anyR f (k + 1) (n - (k + 1))) := by
  have e : n - k = (n - (k + 1)) + 1 := by omega
  rw [e]; rfl

theorem anyR_end (f : Nat → Bool) (k n : Nat) (h : ¬ k < n) : anyR f k (n - k) = false := by
  have e : n - k = 0 := by omega
  rw [e]; rfl

theorem anyR_iff (f : Nat → Bool) (k m : Nat) : anyR f k m = true ↔ ∃ i, k ≤ i ∧ i < k + m ∧ f i = true := by
  induction m generalizing k with
  | zero => simp [anyR]; intro i h1 h2; omega
  | succ m ih =>
    simp only [anyR, Bool.or_eq_true, ih]
    constructor
    · rintro (h | ⟨i, h1, h2, h3⟩)
      · exact ⟨k, Nat.le_refl _, by omega, h⟩
      · exact ⟨i, by omega, by omega, h3⟩
    · rintro ⟨i, h1, h2, h3⟩
      by_cases e : i = k
      · subst e; exact .inl h3
      · exact .inr ⟨i, by omega, by omega, h3⟩

/-- Those of k, .., k + m - 1 at which f is. -/
def pickR (f : Nat → Bool) : Nat → Nat → List Int
  | _, 0 => []
  | k, m + 1 => (if f k = true then [(k : Int)] else []) ++ pickR f (k + 1) m

theorem pickR_go (f : Nat → Bool) (k n : Nat) (h : k < n) : pickR f k (n - k) = (if f k = true then [(k : Int)] else []) ++ pickR f (k + 1) (n - (k + 1)) := by
  have e : n - k = (n - (k + 1)) + 1 := by omega
  rw [e]; rfl

theorem pickR_end (f : Nat → Bool) (k n : Nat) (h : ¬ k < n) : pickR f k (n - k) = [] := by
  have e : n - k = 0 := by omega
  rw [e]; rfl

theorem getD_mem {l : List Int} {k : Nat} (h : k < l.length) : l[k]?.getD 0 ∈ l := by simp [h]

theorem cell_box (w : World) (cs : Array Value) (T : TypeId) (k : Nat) (v : Value) (h : cs[k]? = some v) : (w.alloc (.cells cs T)).cell? ⟨w.heap.size, k, none⟩ = some v := by
  have := heap_alloc_new w (.cells cs T)
  simp only [World.cell?]
  rw [this]
  simpa using h

/-- wr is w with the box cs at its end, and what came behind it. -/
def Boxed1 (w : World) (cs : Array Value) (T : TypeId) (wr : World) : Prop := Below (w.heap.size + 1) (w.alloc (.cells cs T)) wr

theorem Boxed1.start (w : World) (cs : Array Value) (T : TypeId) : Boxed1 w cs T (w.alloc (.cells cs T)) := Below.refl _ _

theorem Boxed1.cell {w : World} {cs : Array Value} {T : TypeId} {wr : World} (h : Boxed1 w cs T wr) (k : Nat) {v : Value} (hk : cs[k]? = some v) : wr.cell? ⟨w.heap.size, k, none⟩ = some v :=
  (Below.cell h (p := ⟨w.heap.size, k, none⟩) (by simp)).trans (cell_box w cs T k v hk)

theorem Boxed1.size {w : World} {cs : Array Value} {T : TypeId} {wr : World} (h : Boxed1 w cs T wr) : w.heap.size + 1 ≤ wr.heap.size := by
  have := Below.size h; simpa using this

theorem Boxed1.below {w : World} {cs : Array Value} {T : TypeId} {wr : World} (h : Boxed1 w cs T wr) : Below w.heap.size w wr :=
  ((Below.refl _ _).alloc (Nat.le_refl _) _).trans (Below.mono h (by simp))

theorem Boxed1.step {w : World} {cs : Array Value} {T : TypeId} {wr wr' : World} (h : Boxed1 w cs T wr) (hb : Below wr.heap.size wr wr') : Boxed1 w cs T wr' :=
  Below.trans h (hb.mono h.size)

theorem Boxed1.drewN {w : World} {cs : Array Value} {T : TypeId} {wr : World} (h : Boxed1 w cs T wr) (n : Nat) : Boxed1 w cs T (wr.drewN n) := below_drewN h n

theorem Boxed1.drew {w : World} {cs : Array Value} {T : TypeId} {wr : World} (h : Boxed1 w cs T wr) : Boxed1 w cs T wr.drew := Below.drew h

theorem Boxed1.alloc {w : World} {cs : Array Value} {T : TypeId} {wr : World} (h : Boxed1 w cs T wr) (o : Obj) : Boxed1 w cs T (wr.alloc o) := Below.alloc h h.size o

theorem Boxed1.step' {w : World} {cs : Array Value} {T : TypeId} {wr wr' : World} (h : Boxed1 w cs T wr) (hb : Below (w.heap.size + 1) wr wr') : Boxed1 w cs T wr' := Below.trans h hb

/-- What stays in Draw: the field and the lot in their boxes. -/
def Boxed2 (w : World) (cs : Array Value) (T : TypeId) (ds : Array Value) (U : TypeId) (W : World) : Prop := Below (w.heap.size + 2) ((w.alloc (.cells cs T)).alloc (.cells ds U)) W

theorem Boxed2.cell1 {w : World} {cs ds : Array Value} {T U : TypeId} {W : World} (h : Boxed2 w cs T ds U W) (k : Nat) {v : Value} (hk : cs[k]? = some v) : W.cell? ⟨w.heap.size, k, none⟩ = some v :=
  (Below.cell h (p := ⟨w.heap.size, k, none⟩) (by simp)).trans (((Below.refl _ _).alloc (Nat.le_refl _) _ : Below (w.alloc (.cells cs T)).heap.size _ _).cell (p := ⟨w.heap.size, k, none⟩) (by simp) |>.trans (cell_box w cs T k v hk))

theorem Boxed2.cell2 {w : World} {cs ds : Array Value} {T U : TypeId} {W : World} (h : Boxed2 w cs T ds U W) (k : Nat) {v : Value} (hk : ds[k]? = some v) : W.cell? ⟨w.heap.size + 1, k, none⟩ = some v := by
  have := cell_box (w.alloc (.cells cs T)) ds U k v hk
  rw [World.size_alloc] at this
  exact (Below.cell h (p := ⟨w.heap.size + 1, k, none⟩) (by simp)).trans this

theorem Boxed2.below {w : World} {cs ds : Array Value} {T U : TypeId} {W : World} (h : Boxed2 w cs T ds U W) : Below w.heap.size w W :=
  (((Below.refl _ _).alloc (Nat.le_refl _) _).alloc (by simp) _).trans (Below.mono h (by simp))

theorem Boxed2.size {w : World} {cs ds : Array Value} {T U : TypeId} {W : World} (h : Boxed2 w cs T ds U W) : w.heap.size + 2 ≤ W.heap.size := by
  have := Below.size h; simpa using this

theorem Boxed2.step {w : World} {cs ds : Array Value} {T U : TypeId} {W W' : World} (h : Boxed2 w cs T ds U W) (hb : Below (w.heap.size + 2) W W') : Boxed2 w cs T ds U W' := Below.trans h hb

theorem Boxed2.drew {w : World} {cs ds : Array Value} {T U : TypeId} {W : World} (h : Boxed2 w cs T ds U W) : Boxed2 w cs T ds U W.drew := Below.drew h

theorem Boxed2.drewN {w : World} {cs ds : Array Value} {T U : TypeId} {W : World} (h : Boxed2 w cs T ds U W) (k : Nat) : Boxed2 w cs T ds U (W.drewN k) := below_drewN h k

theorem Boxed2.alloc {w : World} {cs ds : Array Value} {T U : TypeId} {W : World} (h : Boxed2 w cs T ds U W) (b : Obj) : Boxed2 w cs T ds U (W.alloc b) := Below.alloc h h.size b

theorem Try.info3 : (Try.prog.info? 3).map (fun i => (i.zero, i.size, i.bytes)) = some (some (.int .i64 0), 1, 8) := by kernel_rfl

/-- v is a slice of numbers that the call owns, in blocks from 'base' on. -/
def OwnInts (w : World) (base : Nat) (v : Value) (l : List Int) : Prop := w.ownsRow base 3 1 v l.length (l.map (Value.int .i64))

theorem ownInts_nil (w : World) (base : Nat) : OwnInts w base (.slice none 0 0) [] := World.ownsRow_nil _ _ _ _

theorem OwnInts.slice {w : World} {base : Nat} {v : Value} {l : List Int} (h : OwnInts w base v l) : ∃ p c, v = .slice p l.length c ∧ IntsAt w p l.length l := by
  rcases h.2 with ⟨rfl, h0⟩ | ⟨g, cap, cur, rfl, hg, hh, hn, hm, hs, ht⟩
  · exact ⟨none, 0, by rw [h0], rfl, fun i hi => by omega⟩
  · refine ⟨_, cap, rfl, rfl, fun i hi => ⟨g, 0, rfl, ?_⟩⟩
    have hc := World.ownsRow.cells h (g := g) rfl i (.int .i64 (l[i]?.getD 0)) (by simp [hi])
    have e : (⟨g, 0, none⟩ : Addr).add i = ⟨g, 0 + i, none⟩ := by unfold Addr.add; split <;> simp_all
    rw [e] at hc; exact hc

theorem OwnInts.mono {w : World} {base base' : Nat} {v : Value} {l : List Int} (h : OwnInts w base v l) (hb : base' ≤ base) : OwnInts w base' v l := by
  refine ⟨h.1, ?_⟩
  rcases h.2 with h0 | ⟨g, cap, cur, hv, hg, r⟩
  · exact .inl h0
  · exact .inr ⟨g, cap, cur, hv, Nat.le_trans hb hg, r⟩

theorem OwnInts.below {w w' : World} {base : Nat} {v : Value} {l : List Int} (h : OwnInts w base v l) (hb : Below w.heap.size w w') : OwnInts w' base v l := by
  refine ⟨h.1, ?_⟩
  rcases h.2 with h0 | ⟨g, cap, cur, hv, hg, hh, r⟩
  · exact .inl h0
  · exact .inr ⟨g, cap, cur, hv, hg, (hb.block g (Array.getElem?_eq_some_iff.1 hh).1).trans hh, r⟩

/-- append(out, y), y a number: at the operation. -/
theorem append_int {ops : Array Oper} {rest : List Oper} {o : Oper} {a : Act} {w : World} {Q : Exit → Act → World → Prop} (hgd : o.guard = none) (s x : Operand)
    (ho : o.op = .call { callee := .builtin .append, args := #[s, x], argTypes := #[51, 51] })
    (base : Nat) (v : Value) (l : List Int) (y : Int) (hown : OwnInts w base v l) (hs : a.eval s = v) (hx : a.eval x = .slice (some ⟨w.heap.size, 0, none⟩) 1 1)
    (hlen : l.length ≤ 1000000) (hbase : base ≤ w.heap.size)
    (h : ∀ v' w', OwnInts w' base v' (l ++ [y]) → Below base w w' → wpList Try.prog ops Q rest (a.put o.dst v') w') :
    wpList Try.prog ops Q (o :: rest) a (w.alloc (.cells #[.int .i64 y] 3)) := by
  obtain ⟨i0, hi, hz0, hz1, hz2⟩ := info_parts Try.info3
  refine wpList_append_own _ hgd s x 51 ho base 3 i0 (.int .i64 0) 1 8 Try.underlying51 hi hz0 hz1 hz2 rfl (by decide) v l.length _ hs (World.ownsRow.alloc hown _)
    ⟨w.heap.size, 0, none⟩ 1 1 [.int .i64 y] hx rfl (cell_one_new _ _ _) (by simp [Value.oneCell']) (by unfold maxLen; omega) (by omega) (by simp; omega) ?_
  intro v' w' h1 h2 _
  refine h v' w' ?_ ?_
  · unfold OwnInts; simpa using h1
  · refine ((Below.refl base w).alloc hbase _).grown h2 (by simp; omega) ?_
    intro k hk
    exact (World.ownsRow.lt hown k hk).1

/-- What is returned: a new slice of numbers. -/
def RetInts (w : World) (l : List Int) (e : Ending) (w' : World) : Prop := ∃ v, e = .returned v ∧ OwnInts w' w.heap.size v l ∧ Below w.heap.size w w'

/-- A slice of n numbers comes back, somewhere; nothing that was there has turned. -/
def RetAt (w : World) (n : Nat) (l : List Int) (e : Ending) (w' : World) : Prop := ∃ p c, e = .returned (.slice p n c) ∧ IntsAt w' p n l ∧ Below w.heap.size w w'

theorem RetInts.at {w : World} {n : Nat} {l : List Int} (hn : l.length = n) {e : Ending} {w' : World} (h : RetInts w l e w') : RetAt w n l e w' := by
  obtain ⟨v, rfl, ho, hb⟩ := h
  obtain ⟨p, c, rfl, hi⟩ := ho.slice
  subst hn
  exact ⟨p, c, rfl, hi, hb⟩

theorem ex_drewN3 (w : World) (a b c : Nat) : ∃ n, ((w.drewN a).drewN b).drewN c = w.drewN n := ⟨a + (b + c), by rw [World.drewN_drewN, World.drewN_drewN]⟩

theorem ex_drewN2 (w : World) (a b : Nat) : ∃ n, (w.drewN a).drewN b = w.drewN n := ⟨a + b, by rw [World.drewN_drewN]⟩

theorem IntsAt.drewN {w : World} {p n l} (h : IntsAt w p n l) (k : Nat) : IntsAt (w.drewN k) p n l := h.below (below_drewN (Below.refl _ _) k)

theorem quiet_add {P : Program} {f : FuncId} {args : Array Value} {w : World} {a n : Nat} {v : Value}
    (h : Calls P f args (w.drewN (a + n)) fun e w' => e = .returned v ∧ ∃ m, w' = (w.drewN (a + n)).drewN m) :
    Calls P f args (w.drewN (a + n)) fun e w'' => e = .returned v ∧ ∃ m, w'' = w.drewN (a + m) :=
  h.mono fun _ _ ⟨he, m, hm⟩ => ⟨he, n + m, by rw [hm, World.drewN_drewN, Nat.add_assoc]⟩

theorem quiet_add_same {P : Program} {f : FuncId} {args : Array Value} {w : World} {a n : Nat} {v : Value}
    (h : Calls P f args (w.drewN (a + n)) fun e w' => e = .returned v ∧ w' = w.drewN (a + n)) :
    Calls P f args (w.drewN (a + n)) fun e w'' => e = .returned v ∧ ∃ m, w'' = w.drewN (a + m) :=
  h.mono fun _ _ ⟨he, hm⟩ => ⟨he, n, hm⟩

/-- Has: the remaining search. -/
def hasB : List Int → Int → Bool
  | [], _ => false
  | a :: r, x => (a == x) || hasB r x

theorem hasB_mem : ∀ (l : List Int) (x : Int), hasB l x = true ↔ x ∈ l
  | [], x => by simp [hasB]
  | a :: r, x => by simp [hasB, hasB_mem r x]; constructor <;> (rintro (h | h) <;> simp [h])

def Boxed3 (w : World) (cs : Array Value) (T : TypeId) (ds : Array Value) (U : TypeId) (es : Array Value) (V : TypeId) (W : World) : Prop := Below (w.heap.size + 3) (((w.alloc (.cells cs T)).alloc (.cells ds U)).alloc (.cells es V)) W

theorem Boxed3.one {w : World} {cs ds es : Array Value} {T U V : TypeId} {W : World} (h : Boxed3 w cs T ds U es V W) : Boxed1 w cs T W :=
  Below.trans ((((Below.refl _ _).alloc (by simp) (.cells ds U)).alloc (by simp) (.cells es V))) (h.mono (by omega))
theorem Boxed3.cell1 {w : World} {cs ds es : Array Value} {T U V : TypeId} {W : World} (h : Boxed3 w cs T ds U es V W) (k : Nat) {v : Value} (hk : cs[k]? = some v) : W.cell? ⟨w.heap.size, k, none⟩ = some v := h.one.cell k hk
theorem Boxed3.two {w : World} {cs ds es : Array Value} {T U V : TypeId} {W : World} (h : Boxed3 w cs T ds U es V W) : Boxed2 w cs T ds U W :=
  Below.trans ((Below.refl _ _).alloc (by simp) (.cells es V)) (h.mono (by omega))
theorem Boxed3.cell2 {w : World} {cs ds es : Array Value} {T U V : TypeId} {W : World} (h : Boxed3 w cs T ds U es V W) (k : Nat) {v : Value} (hk : ds[k]? = some v) : W.cell? ⟨w.heap.size + 1, k, none⟩ = some v := h.two.cell2 k hk
theorem Boxed3.cell3 {w : World} {cs ds es : Array Value} {T U V : TypeId} {W : World} (h : Boxed3 w cs T ds U es V W) (k : Nat) {v : Value} (hk : es[k]? = some v) : W.cell? ⟨w.heap.size + 2, k, none⟩ = some v := by
  have e := cell_box ((w.alloc (.cells cs T)).alloc (.cells ds U)) es V k v hk
  simp only [World.size_alloc] at e
  exact (Below.cell (p := ⟨w.heap.size + 2, k, none⟩) h (by simp)).trans e
theorem Boxed3.below {w : World} {cs ds es : Array Value} {T U V : TypeId} {W : World} (h : Boxed3 w cs T ds U es V W) : Below w.heap.size w W := h.one.below
theorem Boxed3.size {w : World} {cs ds es : Array Value} {T U V : TypeId} {W : World} (h : Boxed3 w cs T ds U es V W) : w.heap.size + 3 ≤ W.heap.size := by
  have := Below.size h; simpa using this
theorem Boxed3.step {w : World} {cs ds es : Array Value} {T U V : TypeId} {W W' : World} (h : Boxed3 w cs T ds U es V W) (hb : Below W.heap.size W W') : Boxed3 w cs T ds U es V W' := Below.trans h (hb.mono h.size)
theorem Boxed2.step1 {w : World} {cs ds : Array Value} {T U : TypeId} {W W' : World} (h : Boxed2 w cs T ds U W) (hb : Below W.heap.size W W') : Boxed2 w cs T ds U W' := Below.trans h (hb.mono h.size)
theorem Boxed3.drew {w : World} {cs ds es : Array Value} {T U V : TypeId} {W : World} (h : Boxed3 w cs T ds U es V W) : Boxed3 w cs T ds U es V W.drew := Below.drew h

/-- The slice 'p, n' of cards reads as l. -/
def CrdsAt (w : World) (p : Option Addr) (n : Nat) (l : List Crd) : Prop :=
  n = l.length ∧ ∀ i k, l[i]? = some k → ∃ b off, p = some ⟨b, off, none⟩ ∧ b < w.heap.size ∧ w.cell? ⟨b, off + i * 7, none⟩ = some (.int .i64 k.x.lo) ∧ w.cell? ⟨b, off + i * 7 + 1, none⟩ = some (.int .i64 k.x.hi) ∧
    w.cell? ⟨b, off + i * 7 + 2, none⟩ = some (.int .i64 k.y.lo) ∧ w.cell? ⟨b, off + i * 7 + 3, none⟩ = some (.int .i64 k.y.hi) ∧ w.cell? ⟨b, off + i * 7 + 4, none⟩ = some (.bool k.hail) ∧
    w.cell? ⟨b, off + i * 7 + 5, none⟩ = some (.int .i64 k.size.lo) ∧ w.cell? ⟨b, off + i * 7 + 6, none⟩ = some (.int .i64 k.size.hi)

theorem CrdsAt.kept {w w' : World} {p n l} (h : CrdsAt w p n l) (hs : w.heap.size ≤ w'.heap.size) (hb : ∀ a, p = some a → 0 < n → a.block < w.heap.size → w'.heap[a.block]? = w.heap[a.block]?) : CrdsAt w' p n l := by
  refine ⟨h.1, fun i k hi => ?_⟩
  obtain ⟨b, off, hp, hlt, h0, h1, h2, h3, h4, h5, h6⟩ := h.2 i k hi
  have hk : w'.heap[b]? = w.heap[b]? := hb _ hp (by have := (List.getElem?_eq_some_iff.1 hi).1; have := h.1; omega) hlt
  have hc : ∀ o, w'.cell? ⟨b, o, none⟩ = w.cell? ⟨b, o, none⟩ := fun o => World.cell?_of_block hk
  exact ⟨b, off, hp, Nat.lt_of_lt_of_le hlt hs, (hc _).trans h0, (hc _).trans h1, (hc _).trans h2, (hc _).trans h3, (hc _).trans h4, (hc _).trans h5, (hc _).trans h6⟩
theorem CrdsAt.below {w w' : World} {p n l} (h : CrdsAt w p n l) (hb : Below w.heap.size w w') : CrdsAt w' p n l := h.kept hb.size fun _a _ _ hlt => hb.block _ hlt
theorem CrdsAt.alloc {w : World} {p n l} (h : CrdsAt w p n l) (o : Obj) : CrdsAt (w.alloc o) p n l := h.below ((Below.refl _ _).alloc (Nat.le_refl _) o)
theorem CrdsAt.at {w : World} {p n l} (h : CrdsAt w p n l) {i : Nat} (hi : i < n) : ∃ k : Crd, l[i]? = some k ∧ ∃ b off, p = some ⟨b, off, none⟩ ∧ b < w.heap.size ∧ w.cell? ⟨b, off + i * 7, none⟩ = some (.int .i64 k.x.lo) ∧ w.cell? ⟨b, off + i * 7 + 1, none⟩ = some (.int .i64 k.x.hi) ∧
    w.cell? ⟨b, off + i * 7 + 2, none⟩ = some (.int .i64 k.y.lo) ∧ w.cell? ⟨b, off + i * 7 + 3, none⟩ = some (.int .i64 k.y.hi) ∧ w.cell? ⟨b, off + i * 7 + 4, none⟩ = some (.bool k.hail) ∧
    w.cell? ⟨b, off + i * 7 + 5, none⟩ = some (.int .i64 k.size.lo) ∧ w.cell? ⟨b, off + i * 7 + 6, none⟩ = some (.int .i64 k.size.hi) := by
  have hk : l[i]? = some (l[i]'(by have := h.1; omega)) := List.getElem?_eq_getElem _
  exact ⟨_, hk, h.2 i _ hk⟩

theorem drop_at' {α : Type} {l : List α} {i : Nat} {c : α} (h : l[i]? = some c) : l.drop i = c :: l.drop (i + 1) := by
  obtain ⟨hi, rfl⟩ := List.getElem?_eq_some_iff.1 h
  exact List.drop_eq_getElem_cons hi

/-- Cells of a storm in block b. -/
structure StoAt (W : World) (b : Nat) (s : Sto) (p : Option Addr) (n c : Nat) : Prop where
  c0 : W.cell? ⟨b, 0, none⟩ = some (.int .i64 s.wide)
  c1 : W.cell? ⟨b, 1, none⟩ = some (.int .i64 s.high)
  c2 : W.cell? ⟨b, 2, none⟩ = some (.int .i64 s.fall)
  c3 : W.cell? ⟨b, 3, none⟩ = some (.int .i64 s.a.lo)
  c4 : W.cell? ⟨b, 4, none⟩ = some (.int .i64 s.a.hi)
  c5 : W.cell? ⟨b, 5, none⟩ = some (.int .i64 s.b.lo)
  c6 : W.cell? ⟨b, 6, none⟩ = some (.int .i64 s.b.hi)
  c7 : W.cell? ⟨b, 7, none⟩ = some (.int .i64 s.half.lo)
  c8 : W.cell? ⟨b, 8, none⟩ = some (.int .i64 s.half.hi)
  c9 : W.cell? ⟨b, 9, none⟩ = some (.int .i64 s.peak.lo)
  c10 : W.cell? ⟨b, 10, none⟩ = some (.int .i64 s.peak.hi)
  c11 : W.cell? ⟨b, 11, none⟩ = some (.slice p n c)

theorem StoAt.of {W : World} {b : Nat} {s : Sto} {p : Option Addr} {n c : Nat} (h : ∀ k v, (#[.int .i64 s.wide, .int .i64 s.high, .int .i64 s.fall, .int .i64 s.a.lo, .int .i64 s.a.hi, .int .i64 s.b.lo, .int .i64 s.b.hi, .int .i64 s.half.lo, .int .i64 s.half.hi, .int .i64 s.peak.lo, .int .i64 s.peak.hi, .slice p n c] : Array Value)[k]? = some v → W.cell? ⟨b, k, none⟩ = some v) : StoAt W b s p n c :=
  ⟨h 0 _ rfl, h 1 _ rfl, h 2 _ rfl, h 3 _ rfl, h 4 _ rfl, h 5 _ rfl, h 6 _ rfl, h 7 _ rfl, h 8 _ rfl, h 9 _ rfl, h 10 _ rfl, h 11 _ rfl⟩
theorem StoAt.lt {W : World} {b : Nat} {s : Sto} {p : Option Addr} {n c : Nat} (h : StoAt W b s p n c) : b < W.heap.size := World.block_lt_of_cell? W _ h.c0
theorem StoAt.kept {W W' : World} {b : Nat} {s : Sto} {p : Option Addr} {n c : Nat} (h : StoAt W b s p n c) (hb : W'.heap[b]? = W.heap[b]?) : StoAt W' b s p n c :=
  ⟨(World.cell?_of_block hb).trans h.c0, (World.cell?_of_block hb).trans h.c1, (World.cell?_of_block hb).trans h.c2, (World.cell?_of_block hb).trans h.c3, (World.cell?_of_block hb).trans h.c4, (World.cell?_of_block hb).trans h.c5, (World.cell?_of_block hb).trans h.c6, (World.cell?_of_block hb).trans h.c7, (World.cell?_of_block hb).trans h.c8, (World.cell?_of_block hb).trans h.c9, (World.cell?_of_block hb).trans h.c10, (World.cell?_of_block hb).trans h.c11⟩
theorem StoAt.below {W W' : World} {b : Nat} {s : Sto} {p : Option Addr} {n c : Nat} (h : StoAt W b s p n c) (hb : Below W.heap.size W W') : StoAt W' b s p n c := h.kept (hb.block _ h.lt)

/-- Cells of a card in block b. -/
structure CrdAt (W : World) (b : Nat) (z : Crd) : Prop where
  c0 : W.cell? ⟨b, 0, none⟩ = some (.int .i64 z.x.lo)
  c1 : W.cell? ⟨b, 1, none⟩ = some (.int .i64 z.x.hi)
  c2 : W.cell? ⟨b, 2, none⟩ = some (.int .i64 z.y.lo)
  c3 : W.cell? ⟨b, 3, none⟩ = some (.int .i64 z.y.hi)
  c4 : W.cell? ⟨b, 4, none⟩ = some (.bool z.hail)
  c5 : W.cell? ⟨b, 5, none⟩ = some (.int .i64 z.size.lo)
  c6 : W.cell? ⟨b, 6, none⟩ = some (.int .i64 z.size.hi)

theorem CrdAt.of {W : World} {b : Nat} {z : Crd} (h : ∀ k v, (#[.int .i64 z.x.lo, .int .i64 z.x.hi, .int .i64 z.y.lo, .int .i64 z.y.hi, .bool z.hail, .int .i64 z.size.lo, .int .i64 z.size.hi] : Array Value)[k]? = some v → W.cell? ⟨b, k, none⟩ = some v) : CrdAt W b z :=
  ⟨h 0 _ rfl, h 1 _ rfl, h 2 _ rfl, h 3 _ rfl, h 4 _ rfl, h 5 _ rfl, h 6 _ rfl⟩
theorem CrdAt.lt {W : World} {b : Nat} {z : Crd} (h : CrdAt W b z) : b < W.heap.size := World.block_lt_of_cell? W _ h.c0
theorem CrdAt.kept {W W' : World} {b : Nat} {z : Crd} (h : CrdAt W b z) (hb : W'.heap[b]? = W.heap[b]?) : CrdAt W' b z :=
  ⟨(World.cell?_of_block hb).trans h.c0, (World.cell?_of_block hb).trans h.c1, (World.cell?_of_block hb).trans h.c2, (World.cell?_of_block hb).trans h.c3, (World.cell?_of_block hb).trans h.c4, (World.cell?_of_block hb).trans h.c5, (World.cell?_of_block hb).trans h.c6⟩
theorem CrdAt.below {W W' : World} {b : Nat} {z : Crd} (h : CrdAt W b z) (hb : Below W.heap.size W W') : CrdAt W' b z := h.kept (hb.block _ h.lt)

/-- Cells of a truth in block b. -/
structure TruAt (W : World) (b : Nat) (t : Tru) : Prop where
  c0 : W.cell? ⟨b, 0, none⟩ = some (.int .i64 t.a)
  c1 : W.cell? ⟨b, 1, none⟩ = some (.int .i64 t.b)
  c2 : W.cell? ⟨b, 2, none⟩ = some (.int .i64 t.half)
  c3 : W.cell? ⟨b, 3, none⟩ = some (.int .i64 t.peak)

theorem TruAt.of {W : World} {b : Nat} {t : Tru} (h : ∀ k v, (#[.int .i64 t.a, .int .i64 t.b, .int .i64 t.half, .int .i64 t.peak] : Array Value)[k]? = some v → W.cell? ⟨b, k, none⟩ = some v) : TruAt W b t :=
  ⟨h 0 _ rfl, h 1 _ rfl, h 2 _ rfl, h 3 _ rfl⟩
theorem TruAt.lt {W : World} {b : Nat} {t : Tru} (h : TruAt W b t) : b < W.heap.size := World.block_lt_of_cell? W _ h.c0
theorem TruAt.kept {W W' : World} {b : Nat} {t : Tru} (h : TruAt W b t) (hb : W'.heap[b]? = W.heap[b]?) : TruAt W' b t :=
  ⟨(World.cell?_of_block hb).trans h.c0, (World.cell?_of_block hb).trans h.c1, (World.cell?_of_block hb).trans h.c2, (World.cell?_of_block hb).trans h.c3⟩
theorem TruAt.below {W W' : World} {b : Nat} {t : Tru} (h : TruAt W b t) (hb : Below W.heap.size W W') : TruAt W' b t := h.kept (hb.block _ h.lt)

/-- Cells of a range in block b. -/
structure RngAt (W : World) (b : Nat) (r : Rng) : Prop where
  c0 : W.cell? ⟨b, 0, none⟩ = some (.int .i64 r.lo)
  c1 : W.cell? ⟨b, 1, none⟩ = some (.int .i64 r.hi)

theorem RngAt.of {W : World} {b : Nat} {r : Rng} (h : ∀ k v, (#[.int .i64 r.lo, .int .i64 r.hi] : Array Value)[k]? = some v → W.cell? ⟨b, k, none⟩ = some v) : RngAt W b r :=
  ⟨h 0 _ rfl, h 1 _ rfl⟩
theorem RngAt.lt {W : World} {b : Nat} {r : Rng} (h : RngAt W b r) : b < W.heap.size := World.block_lt_of_cell? W _ h.c0
theorem RngAt.kept {W W' : World} {b : Nat} {r : Rng} (h : RngAt W b r) (hb : W'.heap[b]? = W.heap[b]?) : RngAt W' b r :=
  ⟨(World.cell?_of_block hb).trans h.c0, (World.cell?_of_block hb).trans h.c1⟩
theorem RngAt.below {W W' : World} {b : Nat} {r : Rng} (h : RngAt W b r) (hb : Below W.heap.size W W') : RngAt W' b r := h.kept (hb.block _ h.lt)

/-- Cells of a rectangle in block b. -/
structure RecAt (W : World) (b : Nat) (x y : Rng) : Prop where
  c0 : W.cell? ⟨b, 0, none⟩ = some (.int .i64 x.lo)
  c1 : W.cell? ⟨b, 1, none⟩ = some (.int .i64 x.hi)
  c2 : W.cell? ⟨b, 2, none⟩ = some (.int .i64 y.lo)
  c3 : W.cell? ⟨b, 3, none⟩ = some (.int .i64 y.hi)

theorem RecAt.of {W : World} {b : Nat} {x y : Rng} (h : ∀ k v, (#[.int .i64 x.lo, .int .i64 x.hi, .int .i64 y.lo, .int .i64 y.hi] : Array Value)[k]? = some v → W.cell? ⟨b, k, none⟩ = some v) : RecAt W b x y :=
  ⟨h 0 _ rfl, h 1 _ rfl, h 2 _ rfl, h 3 _ rfl⟩
theorem RecAt.lt {W : World} {b : Nat} {x y : Rng} (h : RecAt W b x y) : b < W.heap.size := World.block_lt_of_cell? W _ h.c0
theorem RecAt.kept {W W' : World} {b : Nat} {x y : Rng} (h : RecAt W b x y) (hb : W'.heap[b]? = W.heap[b]?) : RecAt W' b x y :=
  ⟨(World.cell?_of_block hb).trans h.c0, (World.cell?_of_block hb).trans h.c1, (World.cell?_of_block hb).trans h.c2, (World.cell?_of_block hb).trans h.c3⟩
theorem RecAt.below {W W' : World} {b : Nat} {x y : Rng} (h : RecAt W b x y) (hb : Below W.heap.size W W') : RecAt W' b x y := h.kept (hb.block _ h.lt)

end Go.Proofs.Ytfnefkenheglhaa
