/- How slices and boxes read in a world; blocks whose cells are known; slices of structs; small facts for the walks over package treaty, its reference and its statements. No condition. -/
import Derived.Test.YtaioobhblfnlaaaRows
import Derived.Test.YtaioobhblfnlaaaPlA
import Derived.WalkKit
import Derived.WalkSpells
import Derived.WalkLawsBesides
import Derived.BigQuiet
import Derived.Deep.QuietTactic
import Derived.Deep.RegionHeld3
import Derived.Deep.Cut
import Derived.Deep.MidRow
import Derived.Laws.OwnMore
import Derived.Laws.EntriesVeiled
import Derived.Deep.AppendLies
namespace Go.Proofs.Ytaioobhblfnlaaa
open Go.RowKit

theorem hid {p : Prop} (h : p) : Hid p := h

theorem bcell {W w1 : World} (hb : Below W.heap.size W w1) : (∀ b o, b < W.heap.size → w1.cell? ⟨b, o, none⟩ = W.cell? ⟨b, o, none⟩) ∧ (∀ b o, b < W.heap.size → w1.frozen? ⟨b, o, none⟩ = W.frozen? ⟨b, o, none⟩) :=
  ⟨fun b o h => hb.cell (p := ⟨b, o, none⟩) h, fun b o h => hb.frozen (p := ⟨b, o, none⟩) h⟩

theorem ret_int {k : IntKind} {a b : Int} (h : a = b) : Ending.returned (.int k a) = .returned (.int k b) := by rw [h]

theorem ret_bool {a b : Bool} (h : a = b) : Ending.returned (.bool a) = .returned (.bool b) := by rw [h]

/-- The slice 'p, n' reads as the numbers l. -/
def IntsAt (w : World) (p : Option Addr) (n : Nat) (l : List Int) : Prop :=
  n = l.length ∧ ∀ i, i < n → ∃ b off, p = some ⟨b, off, none⟩ ∧ w.cell? ⟨b, off + i, none⟩ = some (.int .i64 (l[i]?.getD 0))

theorem IntsAt.below {w w' : World} {p n l} (h : IntsAt w p n l) (hb : Below w.heap.size w w') : IntsAt w' p n l := by
  refine ⟨h.1, fun i hi => ?_⟩
  obtain ⟨b, off, hp, hc⟩ := h.2 i hi
  exact ⟨b, off, hp, (hb.cell (p := ⟨b, off + i, none⟩) (World.block_lt_of_cell? w _ hc)).trans hc⟩

theorem IntsAt.alloc {w : World} {p n l} (h : IntsAt w p n l) (o : Obj) : IntsAt (w.alloc o) p n l :=
  h.below ((Below.refl _ _).alloc (Nat.le_refl _) o)

theorem IntsAt.drew {w : World} {p n l} (h : IntsAt w p n l) : IntsAt w.drew p n l := h

theorem IntsAt.at {w : World} {p n l} (h : IntsAt w p n l) {i : Nat} (hi : i < n) : ∃ b off, p = some ⟨b, off, none⟩ ∧ b < w.heap.size ∧ w.cell? ⟨b, off + i, none⟩ = some (.int .i64 (l[i]?.getD 0)) := by
  obtain ⟨b, off, hp, hc⟩ := h.2 i hi
  exact ⟨b, off, hp, World.block_lt_of_cell? w _ hc, hc⟩

theorem drop_at (l : List Int) (k : Nat) (h : k < l.length) : l.drop k = l[k]?.getD 0 :: l.drop (k + 1) := by
  rw [List.drop_eq_getElem_cons h]; simp [h]

/-- f at k, k + 1, .., k + m - 1. -/
def allR (f : Nat → Bool) : Nat → Nat → Bool
  | _, 0 => true
  | k, m + 1 => f k && allR f (k + 1) m

theorem allR_iff (f : Nat → Bool) (k m : Nat) : allR f k m = true ↔ ∀ i, k ≤ i → i < k + m → f i = true := by
  induction m generalizing k with
  | zero => simp [allR]; omega
  | succ m ih =>
    simp only [allR, Bool.and_eq_true, ih]
    constructor
    · rintro ⟨h1, h2⟩ i hk hi
      by_cases e : i = k
      · subst e; exact h1
      · exact h2 i (by omega) (by omega)
    · intro h
      exact ⟨h k (Nat.le_refl _) (by omega), fun i hk hi => h i (by omega) (by omega)⟩

theorem allR_go (f : Nat → Bool) (k n : Nat) (h : k < n) : allR f k (n - k) = (f k && allR f (k + 1) (n - (k + 1))) := by
  have e : n - k = (n - (k + 1)) + 1 := by omega
  rw [e]; rfl

theorem allR_end (f : Nat → Bool) (k n : Nat) (h : ¬ k < n) : allR f k (n - k) = true := by
  have e : n - k = 0 := by omega
  rw [e]; rfl

/-- f at k, or k + 1, .., or k + m - 1. -/
def anyR (f : Nat → Bool) : Nat → Nat → Bool
  | _, 0 => false
  | k, m + 1 => f k || anyR f (k + 1) m

theorem anyR_go (f : Nat → Bool) (k n : Nat) (h : k < n) : anyR f k (n - k) = (f k || anyR f (k + 1) (n - (k + 1))) := by
  have e : n - k = (n - (k + 1)) + 1 := by omega
  rw [e]; rfl

theorem anyR_end (f : Nat → Bool) (k n : Nat) (h : ¬ k < n) : anyR f k (n - k) = false := by
  have e : n - k = 0 := by omega
  rw [e]; rfl

theorem anyR_iff (f : Nat → Bool) (k m : Nat) : anyR f k m = true ↔ ∃ i, k ≤ i ∧ i < k + m ∧ f i = true := by
  induction m generalizing k with
  | zero => simp [anyR]; intro i h1 h2; omega
  | succ m ih =>
    simp only [anyR, Bool.or_eq_true, ih]
    constructor
    · rintro (h | ⟨i, h1, h2, h3⟩)
      · exact ⟨k, Nat.le_refl _, by omega, h⟩
      · exact ⟨i, by omega, by omega, h3⟩
    · rintro ⟨i, h1, h2, h3⟩
      by_cases e : i = k
      · subst e; exact .inl h3
      · exact .inr ⟨i, by omega, by omega, h3⟩

/-- Those of k, .., k + m - 1 at which f is. -/
def pickR (f : Nat → Bool) : Nat → Nat → List Int
  | _, 0 => []
  | k, m + 1 => (if f k = true then [(k : Int)] else []) ++ pickR f (k + 1) m

theorem pickR_go (f : Nat → Bool) (k n : Nat) (h : k < n) : pickR f k (n - k) = (if f k = true then [(k : Int)] else []) ++ pickR f (k + 1) (n - (k + 1)) := by
  have e : n - k = (n - (k + 1)) + 1 := by omega
  rw [e]; rfl

theorem pickR_end (f : Nat → Bool) (k n : Nat) (h : ¬ k < n) : pickR f k (n - k) = [] := by
  have e : n - k = 0 := by omega
  rw [e]; rfl

theorem getD_mem {l : List Int} {k : Nat} (h : k < l.length) : l[k]?.getD 0 ∈ l := by simp [h]

theorem cell_box (w : World) (cs : Array Value) (T : TypeId) (k : Nat) (v : Value) (h : cs[k]? = some v) : (w.alloc (.cells cs T)).cell? ⟨w.heap.size, k, none⟩ = some v := by
  have := heap_alloc_new w (.cells cs T)
  simp only [World.cell?]
  rw [this]
  simpa using h

/-- wr is w with the box cs at its end, and what came behind it. -/
def Boxed1 (w : World) (cs : Array Value) (T : TypeId) (wr : World) : Prop := Below (w.heap.size + 1) (w.alloc (.cells cs T)) wr

theorem Boxed1.start (w : World) (cs : Array Value) (T : TypeId) : Boxed1 w cs T (w.alloc (.cells cs T)) := Below.refl _ _

theorem Boxed1.cell {w : World} {cs : Array Value} {T : TypeId} {wr : World} (h : Boxed1 w cs T wr) (k : Nat) {v : Value} (hk : cs[k]? = some v) : wr.cell? ⟨w.heap.size, k, none⟩ = some v :=
  (Below.cell h (p := ⟨w.heap.size, k, none⟩) (by simp)).trans (cell_box w cs T k v hk)

theorem Boxed1.size {w : World} {cs : Array Value} {T : TypeId} {wr : World} (h : Boxed1 w cs T wr) : w.heap.size + 1 ≤ wr.heap.size := by
  have := Below.size h; simpa using this

theorem Boxed1.below {w : World} {cs : Array Value} {T : TypeId} {wr : World} (h : Boxed1 w cs T wr) : Below w.heap.size w wr :=
  ((Below.refl _ _).alloc (Nat.le_refl _) _).trans (Below.mono h (by simp))

theorem Boxed1.step {w : World} {cs : Array Value} {T : TypeId} {wr wr' : World} (h : Boxed1 w cs T wr) (hb : Below wr.heap.size wr wr') : Boxed1 w cs T wr' :=
  Below.trans h (hb.mono h.size)

theorem Boxed1.drewN {w : World} {cs : Array Value} {T : TypeId} {wr : World} (h : Boxed1 w cs T wr) (n : Nat) : Boxed1 w cs T (wr.drewN n) := below_drewN h n

theorem Boxed1.drew {w : World} {cs : Array Value} {T : TypeId} {wr : World} (h : Boxed1 w cs T wr) : Boxed1 w cs T wr.drew := Below.drew h

theorem Boxed1.alloc {w : World} {cs : Array Value} {T : TypeId} {wr : World} (h : Boxed1 w cs T wr) (o : Obj) : Boxed1 w cs T (wr.alloc o) := Below.alloc h h.size o

theorem Boxed1.step' {w : World} {cs : Array Value} {T : TypeId} {wr wr' : World} (h : Boxed1 w cs T wr) (hb : Below (w.heap.size + 1) wr wr') : Boxed1 w cs T wr' := Below.trans h hb

/-- What stays in Draw: the field and the lot in their boxes. -/
def Boxed2 (w : World) (cs : Array Value) (T : TypeId) (ds : Array Value) (U : TypeId) (W : World) : Prop := Below (w.heap.size + 2) ((w.alloc (.cells cs T)).alloc (.cells ds U)) W

theorem Boxed2.cell1 {w : World} {cs ds : Array Value} {T U : TypeId} {W : World} (h : Boxed2 w cs T ds U W) (k : Nat) {v : Value} (hk : cs[k]? = some v) : W.cell? ⟨w.heap.size, k, none⟩ = some v :=
  (Below.cell h (p := ⟨w.heap.size, k, none⟩) (by simp)).trans (((Below.refl _ _).alloc (Nat.le_refl _) _ : Below (w.alloc (.cells cs T)).heap.size _ _).cell (p := ⟨w.heap.size, k, none⟩) (by simp) |>.trans (cell_box w cs T k v hk))

theorem Boxed2.cell2 {w : World} {cs ds : Array Value} {T U : TypeId} {W : World} (h : Boxed2 w cs T ds U W) (k : Nat) {v : Value} (hk : ds[k]? = some v) : W.cell? ⟨w.heap.size + 1, k, none⟩ = some v := by
  have := cell_box (w.alloc (.cells cs T)) ds U k v hk
  rw [World.size_alloc] at this
  exact (Below.cell h (p := ⟨w.heap.size + 1, k, none⟩) (by simp)).trans this

theorem Boxed2.below {w : World} {cs ds : Array Value} {T U : TypeId} {W : World} (h : Boxed2 w cs T ds U W) : Below w.heap.size w W :=
  (((Below.refl _ _).alloc (Nat.le_refl _) _).alloc (by simp) _).trans (Below.mono h (by simp))

theorem Boxed2.size {w : World} {cs ds : Array Value} {T U : TypeId} {W : World} (h : Boxed2 w cs T ds U W) : w.heap.size + 2 ≤ W.heap.size := by
  have := Below.size h; simpa using this

theorem Boxed2.step {w : World} {cs ds : Array Value} {T U : TypeId} {W W' : World} (h : Boxed2 w cs T ds U W) (hb : Below (w.heap.size + 2) W W') : Boxed2 w cs T ds U W' := Below.trans h hb

theorem Boxed2.drew {w : World} {cs ds : Array Value} {T U : TypeId} {W : World} (h : Boxed2 w cs T ds U W) : Boxed2 w cs T ds U W.drew := Below.drew h

theorem Boxed2.drewN {w : World} {cs ds : Array Value} {T U : TypeId} {W : World} (h : Boxed2 w cs T ds U W) (k : Nat) : Boxed2 w cs T ds U (W.drewN k) := below_drewN h k

theorem Boxed2.alloc {w : World} {cs ds : Array Value} {T U : TypeId} {W : World} (h : Boxed2 w cs T ds U W) (b : Obj) : Boxed2 w cs T ds U (W.alloc b) := Below.alloc h h.size b

theorem Try.info3 : (Try.prog.info? 3).map (fun i => (i.zero, i.size, i.bytes)) = some (some (.int .i64 0), 1, 8) := by kernel_rfl

/-- v is a slice of numbers that the call owns, in blocks from 'base' on. -/
def OwnInts (w : World) (base : Nat) (v : Value) (l : List Int) : Prop := w.ownsRow base 3 1 v l.length (l.map (Value.int .i64))

theorem ownInts_nil (w : World) (base : Nat) : OwnInts w base (.slice none 0 0) [] := World.ownsRow_nil _ _ _ _

theorem OwnInts.slice {w : World} {base : Nat} {v : Value} {l : List Int} (h : OwnInts w base v l) : ∃ p c, v = .slice p l.length c ∧ IntsAt w p l.length l := by
  rcases h.2 with ⟨rfl, h0⟩ | ⟨g, cap, cur, rfl, hg, hh, hn, hm, hs, ht⟩
  · exact ⟨none, 0, by rw [h0], rfl, fun i hi => by omega⟩
  · refine ⟨_, cap, rfl, rfl, fun i hi => ⟨g, 0, rfl, ?_⟩⟩
    have hc := World.ownsRow.cells h (g := g) rfl i (.int .i64 (l[i]?.getD 0)) (by simp [hi])
    have e : (⟨g, 0, none⟩ : Addr).add i = ⟨g, 0 + i, none⟩ := by unfold Addr.add; split <;> simp_all
    rw [e] at hc; exact hc

theorem OwnInts.mono {w : World} {base base' : Nat} {v : Value} {l : List Int} (h : OwnInts w base v l) (hb : base' ≤ base) : OwnInts w base' v l := by
  refine ⟨h.1, ?_⟩
  rcases h.2 with h0 | ⟨g, cap, cur, hv, hg, r⟩
  · exact .inl h0
  · exact .inr ⟨g, cap, cur, hv, Nat.le_trans hb hg, r⟩

theorem OwnInts.below {w w' : World} {base : Nat} {v : Value} {l : List Int} (h : OwnInts w base v l) (hb : Below w.heap.size w w') : OwnInts w' base v l := by
  refine ⟨h.1, ?_⟩
  rcases h.2 with h0 | ⟨g, cap, cur, hv, hg, hh, r⟩
  · exact .inl h0
  · exact .inr ⟨g, cap, cur, hv, hg, (hb.block g (Array.getElem?_eq_some_iff.1 hh).1).trans hh, r⟩

/-- append(out, y), y a number: at the operation. -/
theorem append_int {ops : Array Oper} {rest : List Oper} {o : Oper} {a : Act} {w : World} {Q : Exit → Act → World → Prop} (hgd : o.guard = none) (s x : Operand)
    (ho : o.op = .call { callee := .builtin .append, args := #[s, x], argTypes := #[27, 27] })
    (base : Nat) (v : Value) (l : List Int) (y : Int) (hown : OwnInts w base v l) (hs : a.eval s = v) (hx : a.eval x = .slice (some ⟨w.heap.size, 0, none⟩) 1 1)
    (hlen : l.length ≤ 1000000) (hbase : base ≤ w.heap.size)
    (h : ∀ v' w', OwnInts w' base v' (l ++ [y]) → Below base w w' → wpList Try.prog ops Q rest (a.put o.dst v') w') :
    wpList Try.prog ops Q (o :: rest) a (w.alloc (.cells #[.int .i64 y] 3)) := by
  obtain ⟨i0, hi, hz0, hz1, hz2⟩ := info_parts Try.info3
  refine wpList_append_own _ hgd s x 27 ho base 3 i0 (.int .i64 0) 1 8 Try.underlying27 hi hz0 hz1 hz2 rfl (by decide) v l.length _ hs (World.ownsRow.alloc hown _)
    ⟨w.heap.size, 0, none⟩ 1 1 [.int .i64 y] hx rfl (cell_one_new _ _ _) (by simp [Value.oneCell']) (by unfold maxLen; omega) (by omega) (by simp; omega) ?_
  intro v' w' h1 h2 _
  refine h v' w' ?_ ?_
  · unfold OwnInts; simpa using h1
  · refine ((Below.refl base w).alloc hbase _).grown h2 (by simp; omega) ?_
    intro k hk
    exact (World.ownsRow.lt hown k hk).1

/-- What is returned: a new slice of numbers. -/
def RetInts (w : World) (l : List Int) (e : Ending) (w' : World) : Prop := ∃ v, e = .returned v ∧ OwnInts w' w.heap.size v l ∧ Below w.heap.size w w'

/-- A slice of n numbers comes back, somewhere; nothing that was there has turned. -/
def RetAt (w : World) (n : Nat) (l : List Int) (e : Ending) (w' : World) : Prop := ∃ p c, e = .returned (.slice p n c) ∧ IntsAt w' p n l ∧ Below w.heap.size w w'

theorem RetInts.at {w : World} {n : Nat} {l : List Int} (hn : l.length = n) {e : Ending} {w' : World} (h : RetInts w l e w') : RetAt w n l e w' := by
  obtain ⟨v, rfl, ho, hb⟩ := h
  obtain ⟨p, c, rfl, hi⟩ := ho.slice
  subst hn
  exact ⟨p, c, rfl, hi, hb⟩

theorem ex_drewN3 (w : World) (a b c : Nat) : ∃ n, ((w.drewN a).drewN b).drewN c = w.drewN n := ⟨a + (b + c), by rw [World.drewN_drewN, World.drewN_drewN]⟩

theorem ex_drewN2 (w : World) (a b : Nat) : ∃ n, (w.drewN a).drewN b = w.drewN n := ⟨a + b, by rw [World.drewN_drewN]⟩

theorem IntsAt.drewN {w : World} {p n l} (h : IntsAt w p n l) (k : Nat) : IntsAt (w.drewN k) p n l := h.below (below_drewN (Below.refl _ _) k)

theorem quiet_add {P : Program} {f : FuncId} {args : Array Value} {w : World} {a n : Nat} {v : Value}
    (h : Calls P f args (w.drewN (a + n)) fun e w' => e = .returned v ∧ ∃ m, w' = (w.drewN (a + n)).drewN m) :
    Calls P f args (w.drewN (a + n)) fun e w'' => e = .returned v ∧ ∃ m, w'' = w.drewN (a + m) :=
  h.mono fun _ _ ⟨he, m, hm⟩ => ⟨he, n + m, by rw [hm, World.drewN_drewN, Nat.add_assoc]⟩

theorem quiet_add_same {P : Program} {f : FuncId} {args : Array Value} {w : World} {a n : Nat} {v : Value}
    (h : Calls P f args (w.drewN (a + n)) fun e w' => e = .returned v ∧ w' = w.drewN (a + n)) :
    Calls P f args (w.drewN (a + n)) fun e w'' => e = .returned v ∧ ∃ m, w'' = w.drewN (a + m) :=
  h.mono fun _ _ ⟨he, hm⟩ => ⟨he, n, hm⟩

/-- Has: the remaining search. -/
def hasB : List Int → Int → Bool
  | [], _ => false
  | a :: r, x => (a == x) || hasB r x

theorem hasB_mem : ∀ (l : List Int) (x : Int), hasB l x = true ↔ x ∈ l
  | [], x => by simp [hasB]
  | a :: r, x => by simp [hasB, hasB_mem r x]; constructor <;> (rintro (h | h) <;> simp [h])

def Boxed3 (w : World) (cs : Array Value) (T : TypeId) (ds : Array Value) (U : TypeId) (es : Array Value) (V : TypeId) (W : World) : Prop := Below (w.heap.size + 3) (((w.alloc (.cells cs T)).alloc (.cells ds U)).alloc (.cells es V)) W

theorem Boxed3.one {w : World} {cs ds es : Array Value} {T U V : TypeId} {W : World} (h : Boxed3 w cs T ds U es V W) : Boxed1 w cs T W :=
  Below.trans ((((Below.refl _ _).alloc (by simp) (.cells ds U)).alloc (by simp) (.cells es V))) (h.mono (by omega))

theorem Boxed3.cell1 {w : World} {cs ds es : Array Value} {T U V : TypeId} {W : World} (h : Boxed3 w cs T ds U es V W) (k : Nat) {v : Value} (hk : cs[k]? = some v) : W.cell? ⟨w.heap.size, k, none⟩ = some v := h.one.cell k hk

theorem Boxed3.two {w : World} {cs ds es : Array Value} {T U V : TypeId} {W : World} (h : Boxed3 w cs T ds U es V W) : Boxed2 w cs T ds U W :=
  Below.trans ((Below.refl _ _).alloc (by simp) (.cells es V)) (h.mono (by omega))

theorem Boxed3.cell2 {w : World} {cs ds es : Array Value} {T U V : TypeId} {W : World} (h : Boxed3 w cs T ds U es V W) (k : Nat) {v : Value} (hk : ds[k]? = some v) : W.cell? ⟨w.heap.size + 1, k, none⟩ = some v := h.two.cell2 k hk

theorem Boxed3.cell3 {w : World} {cs ds es : Array Value} {T U V : TypeId} {W : World} (h : Boxed3 w cs T ds U es V W) (k : Nat) {v : Value} (hk : es[k]? = some v) : W.cell? ⟨w.heap.size + 2, k, none⟩ = some v := by
  have e := cell_box ((w.alloc (.cells cs T)).alloc (.cells ds U)) es V k v hk
  simp only [World.size_alloc] at e
  exact (Below.cell (p := ⟨w.heap.size + 2, k, none⟩) h (by simp)).trans e

theorem Boxed3.below {w : World} {cs ds es : Array Value} {T U V : TypeId} {W : World} (h : Boxed3 w cs T ds U es V W) : Below w.heap.size w W := h.one.below

theorem Boxed3.size {w : World} {cs ds es : Array Value} {T U V : TypeId} {W : World} (h : Boxed3 w cs T ds U es V W) : w.heap.size + 3 ≤ W.heap.size := by
  have := Below.size h; simpa using this

theorem Boxed3.step {w : World} {cs ds es : Array Value} {T U V : TypeId} {W W' : World} (h : Boxed3 w cs T ds U es V W) (hb : Below W.heap.size W W') : Boxed3 w cs T ds U es V W' := Below.trans h (hb.mono h.size)

theorem Boxed2.step1 {w : World} {cs ds : Array Value} {T U : TypeId} {W W' : World} (h : Boxed2 w cs T ds U W) (hb : Below W.heap.size W W') : Boxed2 w cs T ds U W' := Below.trans h (hb.mono h.size)

theorem Boxed3.drew {w : World} {cs ds es : Array Value} {T U V : TypeId} {W : World} (h : Boxed3 w cs T ds U es V W) : Boxed3 w cs T ds U es V W.drew := Below.drew h

theorem drop_at' {α : Type} {l : List α} {i : Nat} {c : α} (h : l[i]? = some c) : l.drop i = c :: l.drop (i + 1) := by
  obtain ⟨hi, rfl⟩ := List.getElem?_eq_some_iff.1 h
  exact List.drop_eq_getElem_cons hi

/-- Cells of a range in block b. -/
structure RngAt (W : World) (b : Nat) (r : Rng) : Prop where
  c0 : W.cell? ⟨b, 0, none⟩ = some (.int .i64 r.lo)
  c1 : W.cell? ⟨b, 1, none⟩ = some (.int .i64 r.hi)

theorem RngAt.of {W : World} {b : Nat} {r : Rng} (h : ∀ k v, (#[.int .i64 r.lo, .int .i64 r.hi] : Array Value)[k]? = some v → W.cell? ⟨b, k, none⟩ = some v) : RngAt W b r :=
  ⟨h 0 _ rfl, h 1 _ rfl⟩

theorem RngAt.lt {W : World} {b : Nat} {r : Rng} (h : RngAt W b r) : b < W.heap.size := World.block_lt_of_cell? W _ h.c0

theorem RngAt.kept {W W' : World} {b : Nat} {r : Rng} (h : RngAt W b r) (hb : W'.heap[b]? = W.heap[b]?) : RngAt W' b r :=
  ⟨(World.cell?_of_block hb).trans h.c0, (World.cell?_of_block hb).trans h.c1⟩

theorem RngAt.below {W W' : World} {b : Nat} {r : Rng} (h : RngAt W b r) (hb : Below W.heap.size W W') : RngAt W' b r := h.kept (hb.block _ h.lt)

theorem IntsAt.kept {w w' : World} {p n l} (h : IntsAt w p n l) (hb : ∀ a, p = some a → 0 < n → a.block < w.heap.size → w'.heap[a.block]? = w.heap[a.block]?) : IntsAt w' p n l :=
  ⟨h.1, fun i hi => by
    obtain ⟨b, off, hp, hlt, hc⟩ := h.at hi
    have hk : w'.heap[b]? = w.heap[b]? := hb _ hp (by omega) hlt
    exact ⟨b, off, hp, (World.cell?_of_block hk).trans hc⟩⟩

theorem hasB_drop {l : List Int} {k : Nat} {x : Int} (hk : k < l.length) : hasB (l.drop k) x = ((l[k]?.getD 0 == x) || hasB (l.drop (k + 1)) x) := by rw [drop_at l k hk]; rfl

theorem eqnil27 (p : Option Addr) (n c : Nat) (w : World) : (binOp .eql 27 (.slice p n c) (.slice none 0 0)).run Try.prog w = .ok (.bool p.isNone) w := by
  have h : Try.prog.underlying 27 = some (.slice 3) := Try.underlying27
  have := run_equal_slice_nil w 27 3 p n c h
  simp [binOp, go_sem, this]

/-- append(out, l...), l numbers that lie somewhere: at the operation. -/
theorem append_ints {ops : Array Oper} {rest : List Oper} {o : Oper} {a : Act} {w : World} {Q : Exit → Act → World → Prop} (hgd : o.guard = none) (s x : Operand)
    (ho : o.op = .call { callee := .builtin .append, args := #[s, x], argTypes := #[27, 27] })
    (base : Nat) (v : Value) (l : List Int) (ad : Addr) (m c : Nat) (y : List Int) (hown : OwnInts w base v l) (hs : a.eval s = v) (hx : a.eval x = .slice (some ad) m c) (hy : IntsAt w (some ad) m y)
    (hlen : l.length ≤ 1000000) (hm : m ≤ 1000000) (hbase : base ≤ w.heap.size)
    (h : ∀ v' w', OwnInts w' base v' (l ++ y) → Below base w w' → wpList Try.prog ops Q rest (a.put o.dst v') w') :
    wpList Try.prog ops Q (o :: rest) a w := by
  obtain ⟨i0, hi, hz0, hz1, hz2⟩ := info_parts Try.info3
  refine wpList_append_own _ hgd s x 27 ho base 3 i0 (.int .i64 0) 1 8 Try.underlying27 hi hz0 hz1 hz2 rfl (by decide) v l.length _ hs hown
    ad m c (y.map (Value.int .i64)) hx (by rw [List.length_map, hy.1, Nat.mul_one]) ?_ ?_ (by unfold maxLen; omega) (by omega) hbase ?_
  · intro j u hj
    rw [List.getElem?_map] at hj
    obtain ⟨z, hz, rfl⟩ := Option.map_eq_some_iff.1 hj
    have hlt : j < m := by rw [hy.1]; exact (List.getElem?_eq_some_iff.1 hz).1
    obtain ⟨b, off, e, hc⟩ := hy.2 j hlt
    cases e
    have e : (⟨b, off, none⟩ : Addr).add j = ⟨b, off + j, none⟩ := by unfold Addr.add; split <;> simp_all
    rw [e, hc, hz]; rfl
  · intro u hu
    obtain ⟨z, _, rfl⟩ := List.mem_map.1 hu
    simp [Value.oneCell']
  · intro v' w' h1 h2 _
    refine h v' w' ?_ ?_
    · unfold OwnInts
      have : (l ++ y).length = l.length + m := by rw [List.length_append, hy.1]
      rw [this]
      simpa using h1
    · refine (Below.refl base w).grown h2 hbase ?_
      intro k hk
      exact (World.ownsRow.lt hown k hk).1

/-- append(out, y): at a step of a region that draws its order. -/
theorem step_append_int {ops : Array Oper} {o : Oper} {a : Act} {w : World} {K : Act → World → Prop} {Q : Exit → Act → World → Prop} {E : Prop} (hgd : o.guard = none) (s x : Operand)
    (ho : o.op = .call { callee := .builtin .append, args := #[s, x], argTypes := #[27, 27] })
    (base : Nat) (v : Value) (l : List Int) (y : Int) (bx : Nat) (hown : OwnInts w base v l) (hs : a.eval s = v) (hx : a.eval x = .slice (some ⟨bx, 0, none⟩) 1 1) (hc : w.cell? ⟨bx, 0, none⟩ = some (.int .i64 y))
    (hlen : l.length ≤ 1000000) (hbase : base ≤ w.heap.size)
    (h : ∀ g cap w', OwnInts w' base (.slice (some ⟨g, 0, none⟩) (l.length + 1) cap) (l ++ [y]) → Below base w w' → base ≤ g → K (a.put o.dst (.slice (some ⟨g, 0, none⟩) (l.length + 1) cap)) w') :
    if Region.wanted o (yielded ops a.tmps) = true then Oper.wp Try.prog o a w K Q else E := by
  obtain ⟨i0, hi, hz0, hz1, hz2⟩ := info_parts Try.info3
  refine step_append_lies w hgd s x 27 ho base 3 i0 (.int .i64 0) 1 8 Try.underlying27 hi hz0 hz1 hz2 rfl (by decide) v l.length (l.map (Value.int .i64)) hs hown ⟨bx, 0, none⟩ 1 1 [.int .i64 y] hx rfl ?_ (by simp [Value.oneCell']) (by decide) (by unfold maxLen; omega) (by omega) hbase w.heap.size rfl ?_
  · intro j u hj
    match j, hj with
    | 0, hj => simp at hj; subst hj; simpa [Addr.add] using hc
  · intro g cap w' h1 h2 h3 h4
    refine h g cap w' ?_ ?_ ?_
    · unfold OwnInts
      simpa using h1
    · refine (Below.refl base w).grown h2 hbase ?_
      intro k hk
      exact (World.ownsRow.lt hown k hk).1
    · rcases h3 with h3 | rfl
      · exact (World.ownsRow.lt hown g h3).1
      · exact hbase

theorem frozen_new (w : World) (cs : Array Value) (T : TypeId) (k : Nat) (_h : (cs[k]?).isSome = true) : (w.alloc (.cells cs T)).frozen? ⟨w.heap.size, k, none⟩ = false := by
  have := heap_alloc_new w (.cells cs T)
  simp only [World.frozen?]
  rw [this]
  rfl

/-- A box, and what its cells hold; none is frozen. -/
def BoxIs (b : Nat) (vs : Array Value) (W : World) : Prop := b < W.heap.size ∧ ∀ (k : Nat) v, vs[k]? = some v → W.cell? ⟨b, k, none⟩ = some v ∧ W.frozen? ⟨b, k, none⟩ = false

theorem BoxIs.start (w : World) (vs : Array Value) (T : TypeId) : BoxIs w.heap.size vs (w.alloc (.cells vs T)) :=
  ⟨by rw [World.size_alloc]; omega, fun k v hk => ⟨cell_box w vs T k v hk, frozen_new w vs T k (by rw [hk]; rfl)⟩⟩

theorem BoxIs.below {b : Nat} {vs : Array Value} {W W' : World} (h : BoxIs b vs W) (hb : Below W.heap.size W W') : BoxIs b vs W' :=
  ⟨Nat.lt_of_lt_of_le h.1 hb.size, fun k v hk => ⟨(hb.cell (p := ⟨b, k, none⟩) h.1).trans (h.2 k v hk).1, (hb.frozen (p := ⟨b, k, none⟩) h.1).trans (h.2 k v hk).2⟩⟩

theorem BoxIs.other {b : Nat} {vs : Array Value} {W : World} (h : BoxIs b vs W) {b' k' : Nat} (hb : b ≠ b') (v : Value) : BoxIs b vs (W.setCell ⟨b', k', none⟩ v) :=
  ⟨by have := h.1; simpa [World.setCell] using this, fun k u hk => ⟨by rw [World.cell?_setCell_other _ _ _ _ (by intro e; injection e with e1; exact hb (by first | exact e1 | exact e1.symm))]; exact (h.2 k u hk).1, by rw [World.frozen?_setCell]; exact (h.2 k u hk).2⟩⟩

theorem BoxIs.put {b : Nat} {vs : Array Value} {W : World} (h : BoxIs b vs W) {j : Nat} (v : Value) : BoxIs b (vs.setIfInBounds j v) (W.setCell ⟨b, j, none⟩ v) := by
  refine ⟨by have := h.1; simpa [World.setCell] using this, fun k u hk => ⟨?_, ?_⟩⟩
  · rw [Array.getElem?_setIfInBounds] at hk
    by_cases e : j = k
    · subst e
      rw [if_pos rfl] at hk
      split at hk
      · rename_i hj
        cases hk
        refine World.cell?_setCell_same' _ _ _ ?_
        rw [(h.2 j vs[j] (Array.getElem?_eq_getElem hj)).1]; rfl
      · cases hk
    · rw [if_neg e] at hk
      rw [World.cell?_setCell_other _ _ _ _ (by intro e2; injection e2 with e3 e4; first | exact e e4 | exact e e4.symm)]
      exact (h.2 k u hk).1
  · rw [Array.getElem?_setIfInBounds] at hk
    rw [World.frozen?_setCell]
    by_cases e : j = k
    · subst e
      rw [if_pos rfl] at hk
      split at hk
      · rename_i hj
        exact (h.2 j vs[j] (Array.getElem?_eq_getElem hj)).2
      · cases hk
    · rw [if_neg e] at hk
      exact (h.2 k u hk).2

theorem BoxIs.keep {b B : Nat} {vs : Array Value} {W W' : World} (h : BoxIs b vs W) (hb : Below B W W') (hB : b < B) : BoxIs b vs W' :=
  ⟨Nat.lt_of_lt_of_le h.1 hb.size, fun k v hk => ⟨(hb.cell (p := ⟨b, k, none⟩) hB).trans (h.2 k v hk).1, (hb.frozen (p := ⟨b, k, none⟩) hB).trans (h.2 k v hk).2⟩⟩

/-- Numbers as cells. -/
def intsV (l : List Int) : Array Value := (l.map (Value.int .i64)).toArray

theorem BoxIs.ints {g : Nat} {l : List Int} {W : World} (h : BoxIs g (intsV l) W) : IntsAt W (some ⟨g, 0, none⟩) l.length l := by
  refine ⟨rfl, fun i hi => ⟨g, 0, rfl, ?_⟩⟩
  have h1 := (h.2 i (.int .i64 l[i]) (by simp [intsV, hi])).1
  rw [Nat.zero_add, h1]
  simp [hi]

theorem BoxIs.setInt {g j : Nat} {l : List Int} {W : World} (h : BoxIs g (intsV l) W) (z : Int) : BoxIs g (intsV (l.set j z)) (W.setCell ⟨g, j, none⟩ (.int .i64 z)) := by
  have h1 := h.put (j := j) (.int .i64 z)
  have e : (intsV l).setIfInBounds j (.int .i64 z) = intsV (l.set j z) := by simp [intsV, List.map_set]
  rwa [e] at h1

theorem BoxIs.cell {b : Nat} {vs : Array Value} {W : World} (h : BoxIs b vs W) (k : Nat) (v : Value) (hk : vs[k]? = some v) : W.cell? ⟨b, k, none⟩ = some v := (h.2 k v hk).1

theorem BoxIs.fz {b : Nat} {vs : Array Value} {W : World} (h : BoxIs b vs W) (k : Nat) (v : Value) (hk : vs[k]? = some v) : W.frozen? ⟨b, k, none⟩ = false := (h.2 k v hk).2

/-- The slice 'p, n' of elements of z cells reads as l. -/
def RowsAt {α : Type} (enc : α → List Value) (z : Nat) (w : World) (p : Option Addr) (n : Nat) (l : List α) : Prop :=
  n = l.length ∧ ∀ i c, l[i]? = some c → ∃ b off, p = some ⟨b, off, none⟩ ∧ b < w.heap.size ∧ ∀ j v, (enc c)[j]? = some v → w.cell? ⟨b, off + i * z + j, none⟩ = some v

theorem RowsAt.kept {α : Type} {enc : α → List Value} {z : Nat} {w w' : World} {p : Option Addr} {n : Nat} {l : List α} (h : RowsAt enc z w p n l) (hs : w.heap.size ≤ w'.heap.size)
    (hb : ∀ a, p = some a → 0 < n → a.block < w.heap.size → w'.heap[a.block]? = w.heap[a.block]?) : RowsAt enc z w' p n l := by
  refine ⟨h.1, fun i k hi => ?_⟩
  obtain ⟨b, off, hp, hlt, h0⟩ := h.2 i k hi
  have hk : w'.heap[b]? = w.heap[b]? := hb _ hp (by have := (List.getElem?_eq_some_iff.1 hi).1; have := h.1; omega) hlt
  exact ⟨b, off, hp, Nat.lt_of_lt_of_le hlt hs, fun j v hj => (World.cell?_of_block hk).trans (h0 j v hj)⟩

theorem RowsAt.below {α : Type} {enc : α → List Value} {z : Nat} {w w' : World} {p : Option Addr} {n : Nat} {l : List α} (h : RowsAt enc z w p n l) (hb : Below w.heap.size w w') : RowsAt enc z w' p n l :=
  h.kept hb.size fun _a _ _ hlt => hb.block _ hlt

theorem RowsAt.at {α : Type} {enc : α → List Value} {z : Nat} {w : World} {p : Option Addr} {n : Nat} {l : List α} (h : RowsAt enc z w p n l) {i : Nat} (hi : i < n) :
    ∃ c, l[i]? = some c ∧ ∃ b off, p = some ⟨b, off, none⟩ ∧ b < w.heap.size ∧ ∀ j v, (enc c)[j]? = some v → w.cell? ⟨b, off + i * z + j, none⟩ = some v := by
  have hk : l[i]? = some (l[i]'(by have := h.1; omega)) := List.getElem?_eq_getElem _
  exact ⟨_, hk, h.2 i _ hk⟩

theorem flat_get {α : Type} {enc : α → List Value} {z : Nat} (hz : ∀ c, (enc c).length = z) : ∀ (T : List α) (i j : Nat) (h : α) (v : Value), T[i]? = some h → (enc h)[j]? = some v → (T.flatMap enc)[i * z + j]? = some v
  | [], i, j, h, v, hi, _ => by simp at hi
  | t :: T, i, j, h, v, hi, hj => by
    have hl := hz t
    have hj4 : j < z := by rw [← hz h]; exact (List.getElem?_eq_some_iff.1 hj).1
    rw [List.flatMap_cons]
    cases i with
    | zero =>
      simp at hi; subst hi
      rw [List.getElem?_append_left (by rw [hl]; omega)]
      simpa using hj
    | succ i =>
      rw [List.getElem?_append_right (by rw [hl, Nat.succ_mul]; omega), hl, show (i + 1) * z + j - z = i * z + j by rw [Nat.succ_mul]; omega]
      exact flat_get hz T i j h v (by simpa using hi) hj

theorem flat_get' {α : Type} {enc : α → List Value} {z : Nat} (hz : ∀ c, (enc c).length = z) (h0 : 0 < z) : ∀ (T : List α) (j : Nat) (u : Value), (T.flatMap enc)[j]? = some u → ∃ c, T[j / z]? = some c ∧ (enc c)[j % z]? = some u
  | [], j, u, h => by simp at h
  | t :: T, j, u, h => by
    have hl := hz t
    rw [List.flatMap_cons] at h
    by_cases hj : j < z
    · rw [List.getElem?_append_left (by rw [hl]; omega)] at h
      refine ⟨t, ?_, ?_⟩
      · rw [Nat.div_eq_of_lt hj]; rfl
      · rw [Nat.mod_eq_of_lt hj]; exact h
    · rw [List.getElem?_append_right (by rw [hl]; omega), hl] at h
      obtain ⟨c, h1, h2⟩ := flat_get' hz h0 T (j - z) u h
      have e : j = j - z + z := by omega
      refine ⟨c, ?_, ?_⟩
      · rw [e, Nat.add_div_right _ h0]; simpa using h1
      · rw [e, Nat.add_mod_right]; exact h2

theorem flat_len {α : Type} {enc : α → List Value} {z : Nat} (hz : ∀ c, (enc c).length = z) : ∀ T : List α, (T.flatMap enc).length = T.length * z
  | [] => by simp
  | t :: T => by rw [List.flatMap_cons, List.length_append, flat_len hz T, hz, List.length_cons, Nat.succ_mul]; omega

/-- The slice value v is the call's own, and reads as l. -/
def OwnRows {α : Type} (enc : α → List Value) (z : Nat) (T : TypeId) (w : World) (base : Nat) (v : Value) (l : List α) : Prop := w.ownsRow base T z v l.length (l.flatMap enc)

theorem row_block {W W' : World} {base : Nat} {e : TypeId} {size : Nat} {v : Value} {n : Nat} {xs : List Value} (h : W.ownsRow base e size v n xs) (hb : ∀ g, v.ownBlock = some g → W'.heap[g]? = W.heap[g]?) : W'.ownsRow base e size v n xs := by
  refine ⟨h.1, ?_⟩
  rcases h.2 with h0 | ⟨g, cap, cur, hv, hg, hh, r⟩
  · exact .inl h0
  · exact .inr ⟨g, cap, cur, hv, hg, (hb g (by rw [hv]; rfl)).trans hh, r⟩

theorem OwnRows.slice {α : Type} {enc : α → List Value} {z : Nat} {T : TypeId} (hz : ∀ c, (enc c).length = z) {w : World} {base : Nat} {v : Value} {l : List α} (h : OwnRows enc z T w base v l) :
    ∃ p c, v = .slice p l.length c ∧ RowsAt enc z w p l.length l := by
  rcases h.2 with ⟨rfl, h0⟩ | ⟨g, cap, cur, rfl, hg, hh, hn, hm, hs, ht⟩
  · exact ⟨none, 0, by rw [h0], rfl, fun i c hi => by have := (List.getElem?_eq_some_iff.1 hi).1; omega⟩
  · refine ⟨_, cap, rfl, rfl, fun i c hi => ⟨g, 0, rfl, (Array.getElem?_eq_some_iff.1 hh).1, fun j v hj => ?_⟩⟩
    have hc := World.ownsRow.cells h (g := g) rfl (i * z + j) v (flat_get hz l i j c v hi hj)
    have e : ∀ y : Nat, (⟨g, 0, none⟩ : Addr).add y = ⟨g, 0 + y, none⟩ := fun y => by unfold Addr.add; split <;> simp_all
    rw [e] at hc
    rw [show 0 + i * z + j = 0 + (i * z + j) by omega]
    exact hc

theorem OwnRows.mono {α : Type} {enc : α → List Value} {z : Nat} {T : TypeId} {w : World} {base base' : Nat} {v : Value} {l : List α} (h : OwnRows enc z T w base v l) (hb : base' ≤ base) : OwnRows enc z T w base' v l := by
  refine ⟨h.1, ?_⟩
  rcases h.2 with h0 | ⟨g, cap, cur, hv, hg, r⟩
  · exact .inl h0
  · exact .inr ⟨g, cap, cur, hv, Nat.le_trans hb hg, r⟩

theorem OwnRows.block {α : Type} {enc : α → List Value} {z : Nat} {T : TypeId} {w w' : World} {base : Nat} {v : Value} {l : List α} (h : OwnRows enc z T w base v l) (hb : ∀ g, v.ownBlock = some g → w'.heap[g]? = w.heap[g]?) : OwnRows enc z T w' base v l := row_block h hb

theorem OwnRows.lt {α : Type} {enc : α → List Value} {z : Nat} {T : TypeId} {w : World} {base : Nat} {v : Value} {l : List α} (h : OwnRows enc z T w base v l) : ∀ g, v.ownBlock = some g → base ≤ g ∧ g < w.heap.size := fun g hg => World.ownsRow.lt h g hg

theorem OwnRows.below {α : Type} {enc : α → List Value} {z : Nat} {T : TypeId} {w w' : World} {base : Nat} {v : Value} {l : List α} (h : OwnRows enc z T w base v l) (hb : Below w.heap.size w w') : OwnRows enc z T w' base v l :=
  row_block h fun g hg => hb.block g (World.ownsRow.lt h g hg).2

theorem ownRows_nil {α : Type} (enc : α → List Value) (z : Nat) (T : TypeId) (w : World) (base : Nat) : OwnRows enc z T w base (.slice none 0 0) ([] : List α) := World.ownsRow_nil _ _ _ _

/-- append(out, l...), l elements that lie somewhere: at the operation. -/
theorem append_rows {α : Type} {enc : α → List Value} {z : Nat} (hz : ∀ c, (enc c).length = z) (h0 : 0 < z) (hone : ∀ c, ∀ u ∈ enc c, u.oneCell' = true) (sl T : TypeId) (zero : Value) (bytes : Nat) (hby : bytes ≤ 1000)
    (hinfo : (Try.prog.info? T).map (fun i => (i.zero, i.size, i.bytes)) = some (some zero, z, bytes)) (hzero : zero.cells.size = z) (hund : Try.prog.underlying sl = some (.slice T))
    {ops : Array Oper} {rest : List Oper} {o : Oper} {a : Act} {w : World} {Q : Exit → Act → World → Prop} (hgd : o.guard = none) (s x : Operand)
    (ho : o.op = .call { callee := .builtin .append, args := #[s, x], argTypes := #[sl, sl] })
    (base : Nat) (v : Value) (l : List α) (ad : Addr) (m c : Nat) (y : List α) (hown : OwnRows enc z T w base v l) (hs : a.eval s = v) (hx : a.eval x = .slice (some ad) m c) (hy : RowsAt enc z w (some ad) m y)
    (hlen : l.length ≤ 1000000) (hm : m ≤ 1000000) (hbase : base ≤ w.heap.size)
    (h : ∀ v' w', OwnRows enc z T w' base v' (l ++ y) → Below base w w' → (∀ k, k < w.heap.size → some k ≠ v.ownBlock → w'.heap[k]? = w.heap[k]?) → wpList Try.prog ops Q rest (a.put o.dst v') w') :
    wpList Try.prog ops Q (o :: rest) a w := by
  obtain ⟨i0, hi, hz0, hz1, hz2⟩ := info_parts hinfo
  refine wpList_append_own _ hgd s x sl ho base T i0 zero z bytes hund hi hz0 hz1 hz2 hzero h0 v l.length _ hs hown ad m c (y.flatMap enc) hx (by rw [flat_len hz, hy.1]) ?_ ?_ (by unfold maxLen; omega) ?_ hbase ?_
  · intro j u hj
    obtain ⟨k, hk, hu⟩ := flat_get' hz h0 y j u hj
    obtain ⟨b, off, e, hlt, q⟩ := hy.2 (j / z) k hk
    cases e
    have e : (⟨b, off, none⟩ : Addr).add j = ⟨b, off + j / z * z + j % z, none⟩ := by
      have e : (⟨b, off, none⟩ : Addr).add j = ⟨b, off + j, none⟩ := by unfold Addr.add; split <;> simp_all
      rw [e]
      have := Nat.div_add_mod' j z
      rw [show off + j = off + j / z * z + j % z by omega]
    rw [e]
    exact q _ _ hu
  · intro u hu
    obtain ⟨k, _, hk⟩ := List.mem_flatMap.1 hu
    exact hone k u hk
  · have : (l.length + m) * bytes ≤ 2000000 * 1000 := Nat.mul_le_mul (by omega) hby
    omega
  · intro v' w' h1 h2 _
    refine h v' w' ?_ ?_ fun k hk hne => h2.block k hk hne
    · unfold OwnRows
      rw [List.length_append, ← hy.1, List.flatMap_append]
      exact h1
    · refine (Below.refl base w).grown h2 hbase ?_
      intro k hk
      exact (World.ownsRow.lt hown k hk).1
end Go.Proofs.Ytaioobhblfnlaaa
