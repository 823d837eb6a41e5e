/- A law for a range over an iterator that makes memory and writes none that lay before. -/
import Derived.Test.YtfnefkenheglhaaBas
import Derived.RangeFuncNested
import Derived.RangeFuncBound
import Derived.RangeFuncCalls
import Derived.RangeFuncLeaves
import Derived.WalkKit
namespace Go.Proofs.Ytfnefkenheglhaa
open Go.RowKit

/-- What lay in w lies so in w', but for the blocks of S; blocks may be new. -/
structure Near (S : Nat → Prop) (w w' : World) : Prop where
  os : w'.os = w.os
  tape : w'.tape = w.tape
  output : w'.output = w.output
  size : w.heap.size ≤ w'.heap.size
  block : ∀ k, k < w.heap.size → ¬ S k → w'.heap[k]? = w.heap[k]?

theorem Near.refl (S : Nat → Prop) (w : World) : Near S w w := ⟨rfl, rfl, rfl, Nat.le_refl _, fun _ _ _ => rfl⟩
theorem Near.trans {S : Nat → Prop} {a b c : World} (h : Near S a b) (k : Near S b c) : Near S a c :=
  ⟨k.os.trans h.os, k.tape.trans h.tape, k.output.trans h.output, Nat.le_trans h.size k.size, fun i hi hs => (k.block i (Nat.lt_of_lt_of_le hi h.size) hs).trans (h.block i hi hs)⟩
theorem Near.mono {S T : Nat → Prop} {w w' : World} (h : Near S w w') (hS : ∀ k, k < w.heap.size → S k → T k) : Near T w w' := ⟨h.os, h.tape, h.output, h.size, fun k hk hT => h.block k hk fun hs => hT (hS k hk hs)⟩
/-- A turn of S behind one of T whose new blocks are S's own. -/
theorem Near.trans' {S T : Nat → Prop} {a b c : World} (h : Near S a b) (k : Near T b c) (hT : ∀ i, i < a.heap.size → T i → S i) : Near S a c :=
  ⟨k.os.trans h.os, k.tape.trans h.tape, k.output.trans h.output, Nat.le_trans h.size k.size, fun i hi hs => (k.block i (Nat.lt_of_lt_of_le hi h.size) fun ht => hs (hT i hi ht)).trans (h.block i hi hs)⟩
theorem Near.of_below {S : Nat → Prop} {B : Nat} {w w' : World} (h : Below B w w') (hS : ∀ k, k < w.heap.size → B ≤ k → S k) : Near S w w' := ⟨h.os, h.tape, h.output, h.size, fun k hk hs => h.block k (Classical.byContradiction fun hn => hs (hS k hk (by omega)))⟩
theorem Near.below {S : Nat → Prop} {B : Nat} {w w' : World} (h : Near S w w') (hB : B ≤ w.heap.size) (hS : ∀ k, k < B → ¬ S k) : Below B w w' := ⟨h.os, h.tape, h.output, h.size, fun k hk => h.block k (by omega) (hS k hk)⟩
theorem Near.alloc {S : Nat → Prop} {a w : World} (h : Near S a w) (o : Obj) : Near S a (w.alloc o) := h.trans ⟨rfl, rfl, rfl, by simp, fun k hk _ => Below.heap_alloc _ _ _ hk⟩
theorem Near.setCell {S : Nat → Prop} {a w : World} (h : Near S a w) {p : Addr} (hp : p.block < a.heap.size → S p.block) (u : Value) : Near S a (w.setCell p u) :=
  h.trans' (T := fun k => k = p.block) ⟨rfl, rfl, rfl, by simp [World.setCell], fun k hk hs => Below.heap_setCell _ _ _ _ hs⟩ (fun i hi e => by subst e; exact hp hi)
theorem Near.drew {S : Nat → Prop} {a w : World} (h : Near S a w) : Near S a w.drew := ⟨h.os, h.tape, h.output, h.size, h.block⟩
theorem Near.grown {S : Nat → Prop} {a w w' : World} {row : Option Nat} (h : Near S a w) (hg : w.grownBy w' row) (hr : ∀ k, row = some k → k < a.heap.size → S k) : Near S a w' :=
  h.trans' (T := fun k => row = some k) ⟨hg.os, hg.tape, hg.output, hg.size, fun k hk hs => hg.block k hk (fun e => hs e.symm)⟩ (fun i hi e => hr i e hi)
theorem Near.cell {S : Nat → Prop} {w w' : World} (h : Near S w w') {p : Addr} (hp : p.block < w.heap.size) (hs : ¬ S p.block) : w'.cell? p = w.cell? p := World.cell?_of_block (h.block _ hp hs)
theorem Near.frozen {S : Nat → Prop} {w w' : World} (h : Near S w w') {p : Addr} (hp : p.block < w.heap.size) (hs : ¬ S p.block) : w'.frozen? p = w.frozen? p := World.frozen?_of_block (h.block _ hp hs)
theorem Near.putObj {w : World} (l : Nat) (o : Obj) : Near (fun k => k = l) w (w.putObj l o) := ⟨rfl, rfl, rfl, by simp, fun _ _ hs => World.putObj_heap_other hs⟩

/-- An iterator's contract: it yields all, one by one, until a round has said 'no more'. It writes no block that lay before; a round may not write the blocks of Rd. -/
def Gives3 {α : Type} (F : Fence) (n : Nat) (P : Program) (g : Nat) (lb : Array Value) (enc : α → Array Value) (all : List α) (Rd : Nat → Prop) (w : World) : Prop :=
  ∀ (l : Nat) (J Jx : List α → World → Prop) (C : Nat → Prop) (W : World), Below w.heap.size w W → (∀ k, C k → ¬ Rd k) →
    (∀ pre W1 W2, J pre W1 → Near (fun _ => False) W1 W2 → J pre W2) → (∀ pre W1 W2, Jx pre W1 → Near (fun _ => False) W1 W2 → Jx pre W2) →
    (∀ pre x rest W1, all = pre ++ x :: rest → W.heap.size ≤ W1.heap.size → J pre W1 → YieldAt F (n - 1) P l (enc x) W1 fun e W' =>
      (e = .returned (.bool true) ∧ J (pre ++ [x]) W' ∧ Near C W1 W') ∨ (e = .returned (.bool false) ∧ Jx (pre ++ [x]) W' ∧ Near C W1 W')) →
    J [] W →
    CallsIn F n P g (#[.func (.yield l) #[] #[]] ++ lb) W fun e W' => (∃ v, e = .returned v) ∧ (J all W' ∨ ∃ pre rest, pre ++ rest = all ∧ Jx pre W')

/-- How a round's body may be left. -/
def nearPost {α : Type} (C : Nat → Prop) (I Ix : List α → World → Prop) (xs : List α) (W : World) : Exit → Act → World → Prop
  | .normal, _, W' => Near C W W' ∧ I xs W'
  | .ret, _, W' => Near C W W' ∧ Ix xs W'
  | _, _, _ => False

/-- A range over such an iterator. -/
theorem wpIn_rangeFunc_near3 {α : Type} {F : Fence} {n : Nat} {P : Program} {g : Operand} {ps : Array Tmp} {assign body : Code} {Q : Exit → Act → World → Prop} {a : Act} {w : World}
    (hro : F.round = none) (h1 : 1 ≤ n) {gf : Nat} {lb : Array Value} (hg : a.eval g = .func (.func gf) #[] lb) (hFg : F.fn gf) (eg : ∀ args w, (callFunc gf args).run P w = .ok (.enter gf args) w)
    {enc : α → Array Value} {all : List α} {Rd : Nat → Prop} {w0 : World} (hsz : ∀ x, (enc x).size = ps.size) (hseq : Gives3 F (n - 1) P gf lb enc all Rd w0) (hb0 : Below w0.heap.size w0 w) (hRd : ∀ k, Rd k → k < w0.heap.size)
    (C : Nat → Prop) (hC : ∀ k, C k → (k < w.heap.size ∨ w.heap.size + 2 ≤ k) ∧ ¬ Rd k)
    (I Ix : List α → World → Prop) (hI : ∀ pre W1 W2, I pre W1 → Near (fun k => k = w.heap.size ∨ k = w.heap.size + 1) W1 W2 → I pre W2) (hIx : ∀ pre W1 W2, Ix pre W1 → Near (fun k => k = w.heap.size ∨ k = w.heap.size + 1) W1 W2 → Ix pre W2)
    (h0 : I [] w)
    (hround : ∀ pre x rest W, all = pre ++ x :: rest → w.heap.size + 2 ≤ W.heap.size → I pre W →
      assign.wpIn (F.inRound (w.heap.size + 1)) (n - 1 - 1) P (Exit.then (fun a' W' => Near C W W' ∧ ∀ W'', Near (fun k => k = w.heap.size + 1) W' W'' → body.wpIn (F.inRound (w.heap.size + 1)) (n - 1 - 1) P (nearPost C I Ix (pre ++ [x]) W'') a' W'') (fun _ _ _ => False))
        { tmps := (ps.zip (enc x)).foldl (fun (tmps : Array Value) (t, a) => tmps.setIfInBounds t a) a.tmps, defers := [] } W)
    (hdone : ∀ W, I all W → W.heap[w.heap.size]? = some (.deferred (some [])) → w.heap.size + 2 ≤ W.heap.size → Q .normal { a with defers := { target := .collected w.heap.size, args := #[] } :: a.defers } W)
    (hstop : ∀ pre rest W, pre ++ rest = all → Ix pre W → W.heap[w.heap.size]? = some (.deferred (some [])) → w.heap.size + 2 ≤ W.heap.size → Code.ret.wpIn F n P Q { a with defers := { target := .collected w.heap.size, args := #[] } :: a.defers } W) :
    (Code.rangeFunc g ps assign body).wpIn F n P Q a w := by
  refine wpIn_rangeFunc ?_
  intro fn hfn
  rw [hro]
  obtain ⟨rec, hrec⟩ : ∃ rec : LoopState → Option Code → Loop, rec = fun st pe => { state := st, pending := pe, fn, tmps := a.tmps, params := ps, assign, body, defers := w.heap.size } := ⟨_, rfl⟩
  obtain ⟨W1, hW1⟩ : ∃ W1, (w.alloc (.deferred (some []))).alloc (.loop (rec .ready none)) = W1 := ⟨_, rfl⟩
  have hsz1 : W1.heap.size = w.heap.size + 2 := by rw [← hW1]; simp
  have hL1 : W1.heap[w.heap.size + 1]? = some (.loop (rec .ready none)) := by
    rw [← hW1]; have := World.alloc_heap_new (w.alloc (.deferred (some []))) (.loop (rec .ready none)); rwa [World.size_alloc] at this
  have hK1 : W1.heap[w.heap.size]? = some (.deferred (some [])) := by
    rw [← hW1]; exact (Below.heap_alloc _ _ _ (by simp)).trans (World.alloc_heap_new w _)
  have hI1 : I [] W1 := by rw [← hW1]; exact hI _ _ _ h0 (((Near.refl _ _).alloc _).alloc _)
  have hb1 : Below w0.heap.size w0 W1 := by
    rw [← hW1]; exact hb0.trans ((((Below.refl _ w).alloc (Nat.le_refl _) _).alloc (by simp) _).mono hb0.size)
  refine ⟨w.heap.size + 1, [{ target := .collected w.heap.size, args := #[] }], W1, { target := .fn (.func gf) lb, args := #[.func (.yield (w.heap.size + 1)) #[] #[]] }, W1, gf,
    #[.func (.yield (w.heap.size + 1)) #[] #[]] ++ lb, W1, ?_, ?_, ?_, ?_, fun _ => h1, ?_⟩
  · rw [← hW1, hrec]; exact run_enterLoop_outer _ _ _ _ _
  · simp only [resolve, hg]
    simp [go_sem]
  · intro f' hf'; simp [Target.leads] at hf'; subst hf'; exact hFg
  · simp [invoke, go_sem, eg]
  · have hput : ∀ (s : List α) (W : World) (o : Obj), I s W → I s (W.putObj (w.heap.size + 1) o) := fun s W o h => hI _ _ _ h ((Near.putObj _ _).mono (by intro k _ e; exact .inr e))
    have hputx : ∀ (s : List α) (W : World) (o : Obj), Ix s W → Ix s (W.putObj (w.heap.size + 1) o) := fun s W o h => hIx _ _ _ h ((Near.putObj _ _).mono (by intro k _ e; exact .inr e))
    have hfar : ∀ {W W' : World} {k : Nat} {o : Obj}, Near (fun _ => False) W W' → W.heap[k]? = some o → W'.heap[k]? = some o := fun {W W' k o} hn h => (hn.block k (Array.getElem?_eq_some_iff.1 h).1 id).trans h
    refine (hseq (w.heap.size + 1)
      (fun pre W => I pre W ∧ W.heap[w.heap.size + 1]? = some (.loop (rec .ready none)) ∧ W.heap[w.heap.size]? = some (.deferred (some [])))
      (fun pre W => Ix pre W ∧ W.heap[w.heap.size + 1]? = some (.loop (rec .done (some .ret))) ∧ W.heap[w.heap.size]? = some (.deferred (some [])))
      (fun k => C k ∨ k = w.heap.size + 1) W1 hb1
      (fun k hk => by
        rcases hk with hk | rfl
        · exact (hC k hk).2
        · exact fun hr => by have := hRd _ hr; have := hb0.size; omega)
      (fun s A B hs hn => ⟨hI s A B hs.1 (hn.mono fun _ _ h => h.elim), hfar hn hs.2.1, hfar hn hs.2.2⟩)
      (fun s A B hs hn => ⟨hIx s A B hs.1 (hn.mono fun _ _ h => h.elim), hfar hn hs.2.1, hfar hn hs.2.2⟩)
      ?_ ⟨hI1, hL1, hK1⟩).mono ?_
    · rintro pre x rest W hall hsz3 ⟨hi, hl, hk⟩
      have hlt : w.heap.size + 1 < W.heap.size := (Array.getElem?_eq_some_iff.1 hl).1
      have hy := run_yield (P := P) (args := enc x) hl (by rw [hrec]; exact hsz x)
      rw [hrec] at hy
      refine ⟨fn, _, assign, body, hy, roundIn_of_wpIn hfn ?_⟩
      clear hy
      refine wpIn_mono (hround pre x rest W hall (by omega) hi) ?_
      have hkeep : ∀ {A B : World} {k : Nat} {o : Obj}, Near C A B → w.heap.size ≤ k → k < w.heap.size + 2 → A.heap[k]? = some o → B.heap[k]? = some o := fun {A B k o} hn h1 h2 h =>
        (hn.block k (Array.getElem?_eq_some_iff.1 h).1 (fun hc => by have := (hC k hc).1; omega)).trans h
      rintro e a' Wa hp
      cases e with
      | normal =>
        obtain ⟨hn, hbody⟩ := hp
        have hla := hkeep hn (by omega) (by omega) hl
        have hka := hkeep hn (Nat.le_refl _) (by omega) hk
        have hlta : w.heap.size + 1 < Wa.heap.size := (Array.getElem?_eq_some_iff.1 hla).1
        refine ⟨_, run_beginRound hla (by rw [hrec]), ?_⟩
        refine wpIn_mono (hbody _ (Near.putObj _ _)) ?_
        have hl2 : (Wa.putObj (w.heap.size + 1) (.loop { rec .ready none with state := .busy })).heap[w.heap.size + 1]? = some (.loop { rec .ready none with state := .busy }) := World.putObj_heap_same hlta
        have hk2 : (Wa.putObj (w.heap.size + 1) (.loop { rec .ready none with state := .busy })).heap[w.heap.size]? = some (.deferred (some [])) := (World.putObj_heap_other (by omega)).trans hka
        have fin : ∀ (jump : Option Code) (W3 : World), Near C (Wa.putObj (w.heap.size + 1) (.loop { rec .ready none with state := .busy })) W3 →
            (Instr.endRound (w.heap.size + 1) jump).run P W3 = .ok (.bool jump.isNone) (W3.putObj (w.heap.size + 1) (.loop (rec (if jump.isNone then .ready else .done) jump))) ∧
            (W3.putObj (w.heap.size + 1) (.loop (rec (if jump.isNone then .ready else .done) jump))).heap[w.heap.size + 1]? = some (.loop (rec (if jump.isNone then .ready else .done) jump)) ∧
            (W3.putObj (w.heap.size + 1) (.loop (rec (if jump.isNone then .ready else .done) jump))).heap[w.heap.size]? = some (.deferred (some [])) := fun jump W3 hk3 => by
          have hl3 := hkeep hk3 (by omega) (by omega) hl2
          have := run_endRound (P := P) jump hl3
          rw [hrec] at this ⊢
          exact ⟨this, World.putObj_heap_same (Array.getElem?_eq_some_iff.1 hl3).1, (World.putObj_heap_other (by omega)).trans (hkeep hk3 (Nat.le_refl _) (by omega) hk2)⟩
        rintro e a3 W3 hp
        cases e with
        | normal =>
          obtain ⟨hk3, hi3⟩ := hp
          obtain ⟨hr, hl4, hk4⟩ := fin none W3 hk3
          refine ⟨_, _, hr, .inl ⟨rfl, ⟨hput _ _ _ hi3, hl4, hk4⟩, ?_⟩⟩
          exact (((hn.mono (fun k _ h => .inl h)).trans ((Near.putObj _ _).mono (fun k _ h => .inr h))).trans (hk3.mono (fun k _ h => .inl h))).trans ((Near.putObj _ _).mono (fun k _ h => .inr h))
        | ret =>
          obtain ⟨hk3, hi3⟩ := hp
          obtain ⟨hr, hl4, hk4⟩ := fin (some .ret) W3 hk3
          refine ⟨_, _, hr, .inr ⟨rfl, ⟨hputx _ _ _ hi3, hl4, hk4⟩, ?_⟩⟩
          exact (((hn.mono (fun k _ h => .inl h)).trans ((Near.putObj _ _).mono (fun k _ h => .inr h))).trans (hk3.mono (fun k _ h => .inl h))).trans ((Near.putObj _ _).mono (fun k _ h => .inr h))
        | exit id => exact hp.elim
        | goto t => exact hp.elim
        | panic ch => exact hp.elim
        | outgrown => exact hp.elim
      | exit id => exact hp.elim
      | goto t => exact hp.elim
      | ret => exact hp.elim
      | panic ch => exact hp.elim
      | outgrown => exact hp.elim
    · rintro e W2 ⟨⟨v, rfl⟩, (⟨hi, hl, hk⟩ | ⟨pre, rest, hpr, hi, hl, hk⟩)⟩
      · have hlt := (Array.getElem?_eq_some_iff.1 hl).1
        exact ⟨none, _, by have := run_endLoop (P := P) hl (by rw [hrec]; simp); rw [hrec] at this; exact this, hdone _ (hput _ _ _ hi) ((World.putObj_heap_other (by omega)).trans hk) (by simp; omega)⟩
      · have hlt := (Array.getElem?_eq_some_iff.1 hl).1
        exact ⟨some .ret, _, by have := run_endLoop (P := P) hl (by rw [hrec]; simp); rw [hrec] at this; exact this, hstop pre rest _ hpr (hputx _ _ _ hi) ((World.putObj_heap_other (by omega)).trans hk) (by simp; omega)⟩

end Go.Proofs.Ytfnefkenheglhaa
