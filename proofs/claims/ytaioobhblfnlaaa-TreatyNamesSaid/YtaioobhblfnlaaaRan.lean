/- A law for a range over an iterator that makes memory and writes none that lay before; regions that draw their order, in a round and inside a fence. -/
import Derived.Test.YtaioobhblfnlaaaBas
import Derived.RangeFuncNested
import Derived.RangeFuncBound
import Derived.RangeFuncCalls
import Derived.RangeFuncLeaves
import Derived.WalkKit
import Derived.OrdersHeld
import Derived.OrdersIn
import Derived.TacticsIn
import Derived.Deep.RegionHeld3
import Derived.Deep.RegionHeld
namespace Go.Proofs.Ytaioobhblfnlaaa
open Go.RowKit

section
variable {P : Program} {ops : Array Oper} {Q : Exit → Act → World → Prop} {md : Region.Mode} {S : World → Prop} {i : Nat} {oi : Oper} {v : Value} {fuel : Nat} {listed : Array Bool} {a : Act} {w : World}
/-- wpAnyH_take with what is always so. -/
theorem tkH (hv : ∀ w, S w → (execOp a.eval oi).run P w = .ok (.value v) w) (h : wpAnyH P md ops Q S fuel (listed.setIfInBounds i true) (a.put oi.dst v) w)
    (hi : ops[i]? = some oi := by rfl) (hs : Region.noSelect ops = true := by kernel_rfl) (hf : Region.free md ops listed i = true := by kernel_rfl) (hr : (Region.ready md ops listed).contains i = true := by kernel_rfl)
    (hQ : ∀ c a w, Q (.panic c) (a.put oi.dst v) w → Q (.panic c) a w := by exact fun _ _ _ h => h) (hw : Region.wanted oi (yielded ops a.tmps) = true := by rfl) (hS : S w := by assumption) : wpAnyH P md ops Q S (fuel + 1) listed a w :=
  wpAnyH_take hi hs hf hr hQ (Or.inl ⟨hw, hv⟩) hS h
/-- .. of an operation that is passed over. -/
theorem tkU (h : wpAnyH P md ops Q S fuel (listed.setIfInBounds i true) (a.put oi.dst undef) w)
    (hi : ops[i]? = some oi := by rfl) (hs : Region.noSelect ops = true := by kernel_rfl) (hf : Region.free md ops listed i = true := by kernel_rfl) (hr : (Region.ready md ops listed).contains i = true := by kernel_rfl)
    (hQ : ∀ c a w, Q (.panic c) (a.put oi.dst undef) w → Q (.panic c) a w := by exact fun _ _ _ h => h) (hw : Region.wanted oi (yielded ops a.tmps) = false := by rfl) (hS : S w := by assumption) : wpAnyH P md ops Q S (fuel + 1) listed a w :=
  wpAnyH_take hi hs hf hr hQ (Or.inr ⟨hw, rfl⟩) hS h
end

/-- What lay in w lies so in w', but for the blocks of S; blocks may be new. -/
structure Near (S : Nat → Prop) (w w' : World) : Prop where
  os : w'.os = w.os
  tape : w'.tape = w.tape
  output : w'.output = w.output
  size : w.heap.size ≤ w'.heap.size
  block : ∀ k, k < w.heap.size → ¬ S k → w'.heap[k]? = w.heap[k]?

theorem Near.refl (S : Nat → Prop) (w : World) : Near S w w := ⟨rfl, rfl, rfl, Nat.le_refl _, fun _ _ _ => rfl⟩

theorem Near.trans {S : Nat → Prop} {a b c : World} (h : Near S a b) (k : Near S b c) : Near S a c :=
  ⟨k.os.trans h.os, k.tape.trans h.tape, k.output.trans h.output, Nat.le_trans h.size k.size, fun i hi hs => (k.block i (Nat.lt_of_lt_of_le hi h.size) hs).trans (h.block i hi hs)⟩

theorem Near.mono {S T : Nat → Prop} {w w' : World} (h : Near S w w') (hS : ∀ k, k < w.heap.size → S k → T k) : Near T w w' := ⟨h.os, h.tape, h.output, h.size, fun k hk hT => h.block k hk fun hs => hT (hS k hk hs)⟩

/-- A turn of S behind one of T whose new blocks are S's own. -/
theorem Near.trans' {S T : Nat → Prop} {a b c : World} (h : Near S a b) (k : Near T b c) (hT : ∀ i, i < a.heap.size → T i → S i) : Near S a c :=
  ⟨k.os.trans h.os, k.tape.trans h.tape, k.output.trans h.output, Nat.le_trans h.size k.size, fun i hi hs => (k.block i (Nat.lt_of_lt_of_le hi h.size) fun ht => hs (hT i hi ht)).trans (h.block i hi hs)⟩

theorem Near.of_below {S : Nat → Prop} {B : Nat} {w w' : World} (h : Below B w w') (hS : ∀ k, k < w.heap.size → B ≤ k → S k) : Near S w w' := ⟨h.os, h.tape, h.output, h.size, fun k hk hs => h.block k (Classical.byContradiction fun hn => hs (hS k hk (by omega)))⟩

theorem Near.below {S : Nat → Prop} {B : Nat} {w w' : World} (h : Near S w w') (hB : B ≤ w.heap.size) (hS : ∀ k, k < B → ¬ S k) : Below B w w' := ⟨h.os, h.tape, h.output, h.size, fun k hk => h.block k (by omega) (hS k hk)⟩

theorem Near.alloc {S : Nat → Prop} {a w : World} (h : Near S a w) (o : Obj) : Near S a (w.alloc o) := h.trans ⟨rfl, rfl, rfl, by simp, fun k hk _ => Below.heap_alloc _ _ _ hk⟩

theorem Near.setCell {S : Nat → Prop} {a w : World} (h : Near S a w) {p : Addr} (hp : p.block < a.heap.size → S p.block) (u : Value) : Near S a (w.setCell p u) :=
  h.trans' (T := fun k => k = p.block) ⟨rfl, rfl, rfl, by simp [World.setCell], fun k hk hs => Below.heap_setCell _ _ _ _ hs⟩ (fun i hi e => by subst e; exact hp hi)

theorem Near.drew {S : Nat → Prop} {a w : World} (h : Near S a w) : Near S a w.drew := ⟨h.os, h.tape, h.output, h.size, h.block⟩

theorem Near.grown {S : Nat → Prop} {a w w' : World} {row : Option Nat} (h : Near S a w) (hg : w.grownBy w' row) (hr : ∀ k, row = some k → k < a.heap.size → S k) : Near S a w' :=
  h.trans' (T := fun k => row = some k) ⟨hg.os, hg.tape, hg.output, hg.size, fun k hk hs => hg.block k hk (fun e => hs e.symm)⟩ (fun i hi e => hr i e hi)

theorem Near.cell {S : Nat → Prop} {w w' : World} (h : Near S w w') {p : Addr} (hp : p.block < w.heap.size) (hs : ¬ S p.block) : w'.cell? p = w.cell? p := World.cell?_of_block (h.block _ hp hs)

theorem Near.frozen {S : Nat → Prop} {w w' : World} (h : Near S w w') {p : Addr} (hp : p.block < w.heap.size) (hs : ¬ S p.block) : w'.frozen? p = w.frozen? p := World.frozen?_of_block (h.block _ hp hs)

theorem Near.putObj {w : World} (l : Nat) (o : Obj) : Near (fun k => k = l) w (w.putObj l o) := ⟨rfl, rfl, rfl, by simp, fun _ _ hs => World.putObj_heap_other hs⟩

/-- An iterator's contract: it yields all, one by one, until a round has said 'no more'. It writes no block that lay before; a round may not write the blocks of Rd. -/
def Gives3 {α : Type} (F : Fence) (n : Nat) (P : Program) (g : Nat) (lb : Array Value) (enc : α → Array Value) (all : List α) (Rd : Nat → Prop) (w : World) : Prop :=
  ∀ (l : Nat) (J Jx : List α → World → Prop) (C : Nat → Prop) (W : World), Below w.heap.size w W → (∀ k, C k → ¬ Rd k) →
    (∀ pre W1 W2, J pre W1 → Near (fun _ => False) W1 W2 → J pre W2) → (∀ pre W1 W2, Jx pre W1 → Near (fun _ => False) W1 W2 → Jx pre W2) →
    (∀ pre x rest W1, all = pre ++ x :: rest → W.heap.size ≤ W1.heap.size → J pre W1 → YieldAt F (n - 1) P l (enc x) W1 fun e W' =>
      (e = .returned (.bool true) ∧ J (pre ++ [x]) W' ∧ Near C W1 W') ∨ (e = .returned (.bool false) ∧ Jx (pre ++ [x]) W' ∧ Near C W1 W')) →
    J [] W →
    CallsIn F n P g (#[.func (.yield l) #[] #[]] ++ lb) W fun e W' => (∃ v, e = .returned v) ∧ (J all W' ∨ ∃ pre rest, pre ++ rest = all ∧ Jx pre W')

/-- How a round's body may be left. -/
def nearPost {α : Type} (C : Nat → Prop) (I Ix : List α → World → Prop) (xs : List α) (W : World) : Exit → Act → World → Prop
  | .normal, _, W' => Near C W W' ∧ I xs W'
  | .ret, _, W' => Near C W W' ∧ Ix xs W'
  | _, _, _ => False

/-- A range over such an iterator. -/
theorem wpIn_rangeFunc_near3 {α : Type} {F : Fence} {n : Nat} {P : Program} {g : Operand} {ps : Array Tmp} {assign body : Code} {Q : Exit → Act → World → Prop} {a : Act} {w : World}
    (hro : F.round = none) (h1 : 1 ≤ n) {gf : Nat} {lb : Array Value} (hg : a.eval g = .func (.func gf) #[] lb) (hFg : F.fn gf) (eg : ∀ args w, (callFunc gf args).run P w = .ok (.enter gf args) w)
    {enc : α → Array Value} {all : List α} {Rd : Nat → Prop} {w0 : World} (hsz : ∀ x, (enc x).size = ps.size) (hseq : Gives3 F (n - 1) P gf lb enc all Rd w0) (hb0 : Below w0.heap.size w0 w) (hRd : ∀ k, Rd k → k < w0.heap.size)
    (C : Nat → Prop) (hC : ∀ k, C k → (k < w.heap.size ∨ w.heap.size + 2 ≤ k) ∧ ¬ Rd k)
    (I Ix : List α → World → Prop) (hI : ∀ pre W1 W2, I pre W1 → Near (fun k => k = w.heap.size ∨ k = w.heap.size + 1) W1 W2 → I pre W2) (hIx : ∀ pre W1 W2, Ix pre W1 → Near (fun k => k = w.heap.size ∨ k = w.heap.size + 1) W1 W2 → Ix pre W2)
    (h0 : I [] w)
    (hround : ∀ pre x rest W, all = pre ++ x :: rest → w.heap.size + 2 ≤ W.heap.size → I pre W →
      assign.wpIn (F.inRound (w.heap.size + 1)) (n - 1 - 1) P (Exit.then (fun a' W' => Near C W W' ∧ ∀ W'', Near (fun k => k = w.heap.size + 1) W' W'' → body.wpIn (F.inRound (w.heap.size + 1)) (n - 1 - 1) P (nearPost C I Ix (pre ++ [x]) W'') a' W'') (fun _ _ _ => False))
        { tmps := (ps.zip (enc x)).foldl (fun (tmps : Array Value) (t, a) => tmps.setIfInBounds t a) a.tmps, defers := [] } W)
    (hdone : ∀ W, I all W → W.heap[w.heap.size]? = some (.deferred (some [])) → w.heap.size + 2 ≤ W.heap.size → Q .normal { a with defers := { target := .collected w.heap.size, args := #[] } :: a.defers } W)
    (hstop : ∀ pre rest W, pre ++ rest = all → Ix pre W → W.heap[w.heap.size]? = some (.deferred (some [])) → w.heap.size + 2 ≤ W.heap.size → Code.ret.wpIn F n P Q { a with defers := { target := .collected w.heap.size, args := #[] } :: a.defers } W) :
    (Code.rangeFunc g ps assign body).wpIn F n P Q a w := by
  refine wpIn_rangeFunc ?_
  intro fn hfn
  rw [hro]
  obtain ⟨rec, hrec⟩ : ∃ rec : LoopState → Option Code → Loop, rec = fun st pe => { state := st, pending := pe, fn, tmps := a.tmps, params := ps, assign, body, defers := w.heap.size } := ⟨_, rfl⟩
  obtain ⟨W1, hW1⟩ : ∃ W1, (w.alloc (.deferred (some []))).alloc (.loop (rec .ready none)) = W1 := ⟨_, rfl⟩
  have hsz1 : W1.heap.size = w.heap.size + 2 := by rw [← hW1]; simp
  have hL1 : W1.heap[w.heap.size + 1]? = some (.loop (rec .ready none)) := by
    rw [← hW1]; have := World.alloc_heap_new (w.alloc (.deferred (some []))) (.loop (rec .ready none)); rwa [World.size_alloc] at this
  have hK1 : W1.heap[w.heap.size]? = some (.deferred (some [])) := by
    rw [← hW1]; exact (Below.heap_alloc _ _ _ (by simp)).trans (World.alloc_heap_new w _)
  have hI1 : I [] W1 := by rw [← hW1]; exact hI _ _ _ h0 (((Near.refl _ _).alloc _).alloc _)
  have hb1 : Below w0.heap.size w0 W1 := by
    rw [← hW1]; exact hb0.trans ((((Below.refl _ w).alloc (Nat.le_refl _) _).alloc (by simp) _).mono hb0.size)
  refine ⟨w.heap.size + 1, [{ target := .collected w.heap.size, args := #[] }], W1, { target := .fn (.func gf) lb, args := #[.func (.yield (w.heap.size + 1)) #[] #[]] }, W1, gf,
    #[.func (.yield (w.heap.size + 1)) #[] #[]] ++ lb, W1, ?_, ?_, ?_, ?_, fun _ => h1, ?_⟩
  · rw [← hW1, hrec]; exact run_enterLoop_outer _ _ _ _ _
  · simp only [resolve, hg]
    simp [go_sem]
  · intro f' hf'; simp [Target.leads] at hf'; subst hf'; exact hFg
  · simp [invoke, go_sem, eg]
  · have hput : ∀ (s : List α) (W : World) (o : Obj), I s W → I s (W.putObj (w.heap.size + 1) o) := fun s W o h => hI _ _ _ h ((Near.putObj _ _).mono (by intro k _ e; exact .inr e))
    have hputx : ∀ (s : List α) (W : World) (o : Obj), Ix s W → Ix s (W.putObj (w.heap.size + 1) o) := fun s W o h => hIx _ _ _ h ((Near.putObj _ _).mono (by intro k _ e; exact .inr e))
    have hfar : ∀ {W W' : World} {k : Nat} {o : Obj}, Near (fun _ => False) W W' → W.heap[k]? = some o → W'.heap[k]? = some o := fun {W W' k o} hn h => (hn.block k (Array.getElem?_eq_some_iff.1 h).1 id).trans h
    refine (hseq (w.heap.size + 1)
      (fun pre W => I pre W ∧ W.heap[w.heap.size + 1]? = some (.loop (rec .ready none)) ∧ W.heap[w.heap.size]? = some (.deferred (some [])))
      (fun pre W => Ix pre W ∧ W.heap[w.heap.size + 1]? = some (.loop (rec .done (some .ret))) ∧ W.heap[w.heap.size]? = some (.deferred (some [])))
      (fun k => C k ∨ k = w.heap.size + 1) W1 hb1
      (fun k hk => by
        rcases hk with hk | rfl
        · exact (hC k hk).2
        · exact fun hr => by have := hRd _ hr; have := hb0.size; omega)
      (fun s A B hs hn => ⟨hI s A B hs.1 (hn.mono fun _ _ h => h.elim), hfar hn hs.2.1, hfar hn hs.2.2⟩)
      (fun s A B hs hn => ⟨hIx s A B hs.1 (hn.mono fun _ _ h => h.elim), hfar hn hs.2.1, hfar hn hs.2.2⟩)
      ?_ ⟨hI1, hL1, hK1⟩).mono ?_
    · rintro pre x rest W hall hsz3 ⟨hi, hl, hk⟩
      have hlt : w.heap.size + 1 < W.heap.size := (Array.getElem?_eq_some_iff.1 hl).1
      have hy := run_yield (P := P) (args := enc x) hl (by rw [hrec]; exact hsz x)
      rw [hrec] at hy
      refine ⟨fn, _, assign, body, hy, roundIn_of_wpIn hfn ?_⟩
      clear hy
      refine wpIn_mono (hround pre x rest W hall (by omega) hi) ?_
      have hkeep : ∀ {A B : World} {k : Nat} {o : Obj}, Near C A B → w.heap.size ≤ k → k < w.heap.size + 2 → A.heap[k]? = some o → B.heap[k]? = some o := fun {A B k o} hn h1 h2 h =>
        (hn.block k (Array.getElem?_eq_some_iff.1 h).1 (fun hc => by have := (hC k hc).1; omega)).trans h
      rintro e a' Wa hp
      cases e with
      | normal =>
        obtain ⟨hn, hbody⟩ := hp
        have hla := hkeep hn (by omega) (by omega) hl
        have hka := hkeep hn (Nat.le_refl _) (by omega) hk
        have hlta : w.heap.size + 1 < Wa.heap.size := (Array.getElem?_eq_some_iff.1 hla).1
        refine ⟨_, run_beginRound hla (by rw [hrec]), ?_⟩
        refine wpIn_mono (hbody _ (Near.putObj _ _)) ?_
        have hl2 : (Wa.putObj (w.heap.size + 1) (.loop { rec .ready none with state := .busy })).heap[w.heap.size + 1]? = some (.loop { rec .ready none with state := .busy }) := World.putObj_heap_same hlta
        have hk2 : (Wa.putObj (w.heap.size + 1) (.loop { rec .ready none with state := .busy })).heap[w.heap.size]? = some (.deferred (some [])) := (World.putObj_heap_other (by omega)).trans hka
        have fin : ∀ (jump : Option Code) (W3 : World), Near C (Wa.putObj (w.heap.size + 1) (.loop { rec .ready none with state := .busy })) W3 →
            (Instr.endRound (w.heap.size + 1) jump).run P W3 = .ok (.bool jump.isNone) (W3.putObj (w.heap.size + 1) (.loop (rec (if jump.isNone then .ready else .done) jump))) ∧
            (W3.putObj (w.heap.size + 1) (.loop (rec (if jump.isNone then .ready else .done) jump))).heap[w.heap.size + 1]? = some (.loop (rec (if jump.isNone then .ready else .done) jump)) ∧
            (W3.putObj (w.heap.size + 1) (.loop (rec (if jump.isNone then .ready else .done) jump))).heap[w.heap.size]? = some (.deferred (some [])) := fun jump W3 hk3 => by
          have hl3 := hkeep hk3 (by omega) (by omega) hl2
          have := run_endRound (P := P) jump hl3
          rw [hrec] at this ⊢
          exact ⟨this, World.putObj_heap_same (Array.getElem?_eq_some_iff.1 hl3).1, (World.putObj_heap_other (by omega)).trans (hkeep hk3 (Nat.le_refl _) (by omega) hk2)⟩
        rintro e a3 W3 hp
        cases e with
        | normal =>
          obtain ⟨hk3, hi3⟩ := hp
          obtain ⟨hr, hl4, hk4⟩ := fin none W3 hk3
          refine ⟨_, _, hr, .inl ⟨rfl, ⟨hput _ _ _ hi3, hl4, hk4⟩, ?_⟩⟩
          exact (((hn.mono (fun k _ h => .inl h)).trans ((Near.putObj _ _).mono (fun k _ h => .inr h))).trans (hk3.mono (fun k _ h => .inl h))).trans ((Near.putObj _ _).mono (fun k _ h => .inr h))
        | ret =>
          obtain ⟨hk3, hi3⟩ := hp
          obtain ⟨hr, hl4, hk4⟩ := fin (some .ret) W3 hk3
          refine ⟨_, _, hr, .inr ⟨rfl, ⟨hputx _ _ _ hi3, hl4, hk4⟩, ?_⟩⟩
          exact (((hn.mono (fun k _ h => .inl h)).trans ((Near.putObj _ _).mono (fun k _ h => .inr h))).trans (hk3.mono (fun k _ h => .inl h))).trans ((Near.putObj _ _).mono (fun k _ h => .inr h))
        | exit id => exact hp.elim
        | goto t => exact hp.elim
        | panic ch => exact hp.elim
        | outgrown => exact hp.elim
      | exit id => exact hp.elim
      | goto t => exact hp.elim
      | ret => exact hp.elim
      | panic ch => exact hp.elim
      | outgrown => exact hp.elim
    · rintro e W2 ⟨⟨v, rfl⟩, (⟨hi, hl, hk⟩ | ⟨pre, rest, hpr, hi, hl, hk⟩)⟩
      · have hlt := (Array.getElem?_eq_some_iff.1 hl).1
        exact ⟨none, _, by have := run_endLoop (P := P) hl (by rw [hrec]; simp); rw [hrec] at this; exact this, hdone _ (hput _ _ _ hi) ((World.putObj_heap_other (by omega)).trans hk) (by simp; omega)⟩
      · have hlt := (Array.getElem?_eq_some_iff.1 hl).1
        exact ⟨some .ret, _, by have := run_endLoop (P := P) hl (by rw [hrec]; simp); rw [hrec] at this; exact this, hstop pre rest _ hpr (hputx _ _ _ hi) ((World.putObj_heap_other (by omega)).trans hk) (by simp; omega)⟩

theorem rows_round {P : Program} {row : String} {args : Array Value} {w : World} {R : Value → World → Prop} {l n : Nat} (h : Rows P row args w R) : RowsIn (Fence.wide.inRound l) n P row args w R :=
  fun c cs _ => let ⟨v, w', r, s⟩ := h c cs; ⟨v, w', r, stepsIn_wide.2 s⟩

theorem upon_round {P : Program} {o : Oper} {a : Act} {K : Act → World → Prop} {Q : Exit → Act → World → Prop} {r : Result Next} {l n : Nat} (h : o.upon P a K Q r) : o.uponIn (Fence.wide.inRound l) n P a K Q r := by
  cases r with
  | ok x w' =>
    cases x <;> simp only [Oper.upon, Oper.uponIn] at h ⊢ <;>
      first
        | exact h
        | exact ⟨fun hd => by simp [Fence.wide] at hd, (callsIn_wide.2 h).inRound l⟩
        | exact ⟨fun hd => by simp [Fence.wide] at hd, rows_round h⟩
  | halt x w' => cases x <;> simp only [Oper.upon, Oper.uponIn] at h ⊢ <;> exact h

/-- No operation of a region is a defer statement. -/
def noDefer (ops : Array Oper) : Bool := ops.toList.all fun o => match o.op with | .defer _ => false | _ => true

theorem wpOp_round {P : Program} {ops : Array Oper} {Q : Exit → Act → World → Prop} {i l n : Nat} {K : Act → World → Prop} {a : Act} {w : World} (hnd : noDefer ops = true) (hlet : ¬ LetsOut Q) (h : wpOp P ops Q i K a w) :
    wpOpIn (Fence.wide.inRound l) n P ops Q i K a w := by
  unfold wpOp at h
  unfold wpOpIn
  cases hi : ops[i]? with
  | none => simpa [hi] using h
  | some o =>
    simp only [hi] at h ⊢
    have hd : ∀ c, o.op ≠ .defer c := by
      intro c hc
      have := List.all_eq_true.1 hnd o (by rw [Array.mem_toList_iff]; exact Array.mem_of_getElem? hi)
      rw [hc] at this
      cases this
    split
    · rename_i hw
      simp only [hw, if_true] at h
      rcases h with h | ⟨_, h⟩
      · refine ⟨fun _ _ => trivial, ?_⟩
        rw [Fence.inRound_round, Oper.semAt_some l _ _ hd]
        exact upon_round h
      · exact absurd h hlet
    · rename_i hw
      simp only [hw] at h
      exact ⟨fun _ _ => trivial, h⟩

theorem wpAny_round {P : Program} {md : Region.Mode} {ops : Array Oper} {Q : Exit → Act → World → Prop} {l n : Nat} (hnd : noDefer ops = true) (hlet : ¬ LetsOut Q) : ∀ (fuel : Nat) (listed : Array Bool) (a : Act) (w : World),
    wpAny P md ops Q fuel listed a w → wpAnyIn (Fence.wide.inRound l) n P md ops Q fuel listed a w
  | 0, _, _, _, h => h
  | fuel + 1, _, _, _, h => ⟨h.1, fun i hi => wpOpIn_mono (fun a' w' h' => wpAny_round hnd hlet fuel _ a' w' h') (wpOp_round hnd hlet (h.2 i hi))⟩

/-- A region that draws, in a round: a condition on the world holds all the way. -/
theorem wpIn_region_held_round {P : Program} {ops : Array Oper} {Q : Exit → Act → World → Prop} {l n : Nat} {S : World → Prop} {id : Nat} {a : Act} {w : World} (hm : P.follows .mixedOrders = true) (hnd : noDefer ops = true) (hlet : ¬ LetsOut Q) (hS : S w.drew)
    (h : S w.drew → wpAnyH P .any ops Q S ops.size (Array.replicate ops.size false) a w.drew) : (Code.region id ops true).wpIn (Fence.wide.inRound l) n P Q a w :=
  wpIn_region_any hm (wpAny_round hnd hlet _ _ _ _ (wpAny_of_held _ _ _ _ (h hS)))

section

variable {F : Fence} {n : Nat} {P : Program} {ops : Array Oper} {Q : Exit → Act → World → Prop} {md : Region.Mode} {S : World → Prop}

/-- What is read is the same in each world of S, and nothing is called. -/
def ReadsAs (P : Program) (ops : Array Oper) (S : World → Prop) (o : Oper) (v : Value) (a : Act) : Prop := YieldsIf P ops S o v a ∧ ∀ w, o.about P w a.eval = none

/-- Whatever order comes, S holds behind each operation. -/
def AnyS (F : Fence) (n : Nat) (P : Program) (md : Region.Mode) (ops : Array Oper) (Q : Exit → Act → World → Prop) (S : World → Prop) : Nat → Array Bool → Act → World → Prop
  | 0, listed, a, w => Region.ready md ops listed = [] ∧ Q .normal a w
  | k + 1, listed, a, w => (Region.ready md ops listed = [] → Q .normal a w) ∧ ∀ i ∈ Region.ready md ops listed, wpOpIn F n P ops Q i (fun a' w' => S w' ∧ AnyS F n P md ops Q S k (listed.setIfInBounds i true) a' w') a w

theorem AnyS.any : ∀ {k : Nat} {listed : Array Bool} {a : Act} {w : World}, AnyS F n P md ops Q S k listed a w → wpAnyIn F n P md ops Q k listed a w
  | 0, _, _, _, h => h
  | _ + 1, _, _, _, h => ⟨h.1, fun i hi => wpOpIn_mono (fun _ _ h' => h'.2.any) (h.2 i hi)⟩

theorem ReadsAs.step {i : Nat} {o : Oper} {v : Value} {a : Act} (hro : F.round = none) (hi : ops[i]? = some o) (hy : ReadsAs P ops S o v a) {K : Act → World → Prop} {w : World} (hS : S w) (h : K (a.put o.dst v) w) : wpOpIn F n P ops Q i K a w := by
  have hab : ∀ f, o.about P w a.eval = some f → F.fn f := fun f hf => by rw [hy.2 w] at hf; cases hf
  unfold wpOpIn
  simp only [hi]
  rcases hy.1 with ⟨hw, hv⟩ | ⟨hw, rfl⟩
  · rw [if_pos hw]
    refine ⟨hab, ?_⟩
    rw [hro, Oper.semAt_none, hv w hS]
    exact h
  · rw [if_neg (by rw [hw]; decide)]
    exact ⟨hab, h⟩

theorem ReadsAs.over {j : Nat} {oi oj : Oper} {v : Value} (hro : F.round = none) (hj : ops[j]? = some oj) (hap : oi.apart ops oj = true) (hsi : ∀ cs b, oi.op ≠ .select cs b) (hsj : ∀ cs b, oj.op ≠ .select cs b)
    (hQ : ∀ c a w, Q (.panic c) (a.put oi.dst v) w → Q (.panic c) a w) {K : Act → World → Prop} {a : Act} {w : World} (hy : ReadsAs P ops S oi v a) (h : wpOpIn F n P ops Q j K (a.put oi.dst v) w) :
    wpOpIn F n P ops Q j (fun a' w' => ReadsAs P ops S oi v a' ∧ K (a'.put oi.dst v) w') a w := by
  obtain ⟨h1, h2, h3⟩ := Oper.apart_spec hap
  have keep : ∀ (b : Act), ReadsAs P ops S oi v b → ∀ u, ReadsAs P ops S oi v (b.put oj.dst u) := fun b hb u =>
    ⟨hb.1.of_same (execOp_put oi hsi b oj.dst u h3) (wanted_put oi b oj.dst u h3), fun w => by rw [about_put oi w b oj.dst u h3]; exact hb.2 w⟩
  have keepD : ∀ d, ReadsAs P ops S oi v { a with defers := d :: a.defers } := fun d => ⟨hy.1.of_same rfl rfl, hy.2⟩
  unfold wpOpIn at *
  simp only [hj] at *
  rw [wanted_put oj a oi.dst v h1, about_put oj w a oi.dst v h1] at h
  by_cases hw : Region.wanted oj (yielded ops a.tmps) = true
  · rw [if_pos hw] at h ⊢
    unfold Oper.wpIn at *
    rw [about_put oj w a oi.dst v h1] at h
    refine ⟨h.1, ?_⟩
    replace h := h.2
    rw [hro, Oper.semAt_none, execOp_put oj hsj a oi.dst v h1] at h
    rw [hro, Oper.semAt_none]
    generalize (execOp a.eval oj).run P w = r at *
    cases r with
    | halt x w' =>
      cases x <;> simp only [Oper.uponIn] at h ⊢
      case panic u => exact hQ _ _ _ h
    | ok x w' =>
      cases x <;> simp only [Oper.uponIn] at h ⊢
      case value u => exact ⟨keep a hy u, by rw [← Act.put_comm a v u h2]; exact h⟩
      case skip => exact ⟨keep a hy _, by rw [← Act.put_comm a v undef h2]; exact h⟩
      case defer d => exact ⟨keep _ (keepD d) _, by rw [← Act.put_comm _ v undef h2, ← Act.put_defers]; exact h⟩
      case row row args => exact ⟨h.1, RowsIn.mono h.2 fun u w'' he => ⟨keep a hy u, by rw [← Act.put_comm a v u h2]; exact he⟩⟩
      case enter f args =>
        refine ⟨h.1, CallsIn.mono h.2 fun e w'' he => ?_⟩
        cases e with
        | returned u => exact ⟨keep a hy u, by rw [← Act.put_comm a v u h2]; exact he⟩
        | panicked c => exact hQ _ _ _ he
        | outgrown => exact he
      case round l f tmps assign body =>
        refine ⟨h.1, RoundIn.mono h.2 fun e w'' he => ?_⟩
        cases e with
        | returned u => exact ⟨keep a hy u, by rw [← Act.put_comm a v u h2]; exact he⟩
        | panicked c => exact hQ _ _ _ he
        | outgrown => exact he
  · rw [if_neg hw] at h ⊢
    exact ⟨h.1, keep a hy _, by rw [← Act.put_comm a v undef h2]; exact h.2⟩

theorem AnyS.first {i : Nat} {oi : Oper} {v : Value} (hro : F.round = none) (hi : ops[i]? = some oi) (hsel : ∀ (j : Nat) (o : Oper) cs b, ops[j]? = some o → o.op ≠ .select cs b) (hQ : ∀ c a w, Q (.panic c) (a.put oi.dst v) w → Q (.panic c) a w) :
    ∀ (k : Nat) (listed : Array Bool) (a : Act) (w : World),
      (∀ j oj, ops[j]? = some oj → j ≠ i → listed.getD j true = false → (∀ e ∈ oj.after, Region.binds md e = true → e.on ≠ i) → oi.apart ops oj = true) →
      i ∈ Region.ready md ops listed → ReadsAs P ops S oi v a → S w → AnyS F n P md ops Q S k (listed.setIfInBounds i true) (a.put oi.dst v) w → AnyS F n P md ops Q S (k + 1) listed a w
  | 0, listed, a, w, _, hr, hy, hS, H => by
    refine ⟨fun h => (by rw [h] at hr; cases hr), fun j hj => ?_⟩
    by_cases hji : j = i
    · subst hji; exact hy.step hro hi hS ⟨hS, H⟩
    · have hm := ready_mono hj hji
      rw [H.1] at hm
      cases hm
  | k + 1, listed, a, w, hfree, hr, hy, hS, H => by
    refine ⟨fun h => (by rw [h] at hr; cases hr), fun j hj => ?_⟩
    by_cases hji : j = i
    · subst hji; exact hy.step hro hi hS ⟨hS, H⟩
    · obtain ⟨hjun, oj, hoj, hall⟩ := mem_ready.1 hj
      have hnot : ∀ e ∈ oj.after, Region.binds md e = true → e.on ≠ i := fun e he hb heq => by
        have h1 := hall e he hb
        have h0 := (mem_ready.1 hr).1
        rw [heq] at h1
        by_cases hlt : i < listed.size
        · simp [hlt] at h0 h1; rw [h0] at h1; cases h1
        · simp [Array.getElem?_eq_none (Nat.le_of_not_lt hlt)] at h1
      have h2 := hy.over hro hoj (hfree j oj hoj hji hjun hnot) (fun cs b => hsel i oi cs b hi) (fun cs b => hsel j oj cs b hoj) hQ (H.2 j (ready_mono hj hji))
      refine wpOpIn_mono (fun a' w' h3 => ⟨h3.2.1, AnyS.first hro hi hsel hQ k (listed.setIfInBounds j true) a' w' ?_ (ready_mono hr (Ne.symm hji)) h3.1 h3.2.1 ?_⟩) h2
      · intro x ox hx hxi hun hno
        refine hfree x ox hx hxi ?_ hno
        by_cases hjx : j = x
        · subst hjx; exact hjun
        · rw [getD_set_ne true hjx] at hun; exact hun
      · rw [Array.setIfInBounds_comm _ _ hji]
        exact h3.2.2

/-- Take number i first. -/
theorem anyS_take {i : Nat} {oi : Oper} {v : Value} {k : Nat} {listed : Array Bool} {a : Act} {w : World} (hro : F.round = none) (hi : ops[i]? = some oi) (hs : Region.noSelect ops = true) (hf : Region.free md ops listed i = true)
    (hr : (Region.ready md ops listed).contains i = true) (hQ : ∀ c a w, Q (.panic c) (a.put oi.dst v) w → Q (.panic c) a w) (hy : YieldsIf P ops S oi v a) (ha : ∀ w, oi.about P w a.eval = none) (hS : S w)
    (h : AnyS F n P md ops Q S k (listed.setIfInBounds i true) (a.put oi.dst v) w) : AnyS F n P md ops Q S (k + 1) listed a w :=
  AnyS.first hro hi (Region.noSelect_spec hs) hQ k listed a w (Region.free_spec hi hf) (by simpa using hr) ⟨hy, ha⟩ hS h

/-- One alone may come up. -/
theorem anyS_one {i : Nat} {o : Oper} {k : Nat} {listed : Array Bool} {a : Act} {w : World} (hr : Region.ready md ops listed = [i]) (ho : ops[i]? = some o)
    (h : ∀ K : Act → World → Prop, Hid (∀ a' w', S w' → (S w' → AnyS F n P md ops Q S k (listed.setIfInBounds i true) a' w') → K a' w') → if Region.wanted o (yielded ops a.tmps) = true then Oper.wpIn F n P o a w K Q else (∀ f, o.about P w a.eval = some f → F.fn f) ∧ K (a.put o.dst undef) w) :
    AnyS F n P md ops Q S (k + 1) listed a w := by
  refine ⟨fun h0 => absurd (hr.symm.trans h0) (by simp), fun j hj => ?_⟩
  rw [hr] at hj
  obtain rfl : j = i := by simpa using hj
  refine wpOpIn_step ho fun K hK => h K ?_
  exact hid fun a' w' hs hn => hK a' w' ⟨hs, hn hs⟩

theorem anyS_done {listed : Array Bool} {a : Act} {w : World} (hr : Region.ready md ops listed = []) (h : Q .normal a w) : ∀ k, AnyS F n P md ops Q S k listed a w
  | 0 => ⟨hr, h⟩
  | _ + 1 => ⟨fun _ => h, by rw [hr]; simp⟩

/-- The region: S holds at its start. -/
theorem wpIn_region_anyS {id : Nat} {a : Act} {w : World} (hm : P.follows .mixedOrders = true) (hS : S w.drew) (h : S w.drew → AnyS F n P .any ops Q S ops.size (Array.replicate ops.size false) a w.drew) : (Code.region id ops true).wpIn F n P Q a w :=
  wpIn_region_any hm (h hS).any

end

section

variable {P : Program} {ops : Array Oper} {Q : Exit → Act → World → Prop} {md : Region.Mode} {S : Array Bool → World → Prop}

/-- Whatever order comes, S holds behind each operation, of what has come up. -/
def AnyL (P : Program) (md : Region.Mode) (ops : Array Oper) (Q : Exit → Act → World → Prop) (S : Array Bool → World → Prop) : Nat → Array Bool → Act → World → Prop
  | 0, listed, a, w => Region.ready md ops listed = [] ∧ Q .normal a w
  | k + 1, listed, a, w => (Region.ready md ops listed = [] → Q .normal a w) ∧ ∀ i ∈ Region.ready md ops listed, wpOp P ops Q i (fun a' w' => S (listed.setIfInBounds i true) w' ∧ AnyL P md ops Q S k (listed.setIfInBounds i true) a' w') a w

theorem AnyL.any : ∀ {k : Nat} {listed : Array Bool} {a : Act} {w : World}, AnyL P md ops Q S k listed a w → wpAny P md ops Q k listed a w
  | 0, _, _, _, h => h
  | _ + 1, _, _, _, h => ⟨h.1, fun i hi => wpOp_mono (fun _ _ h' => h'.2.any) (h.2 i hi)⟩

/-- None of some operations has come up. -/
def NoneOf (js : List Nat) (l : Array Bool) : Prop := ∀ j ∈ js, l.getD j true = false

def Early (S : Array Bool → World → Prop) (js : List Nat) (w : World) : Prop := ∃ l, NoneOf js l ∧ S l w

/-- Each of some operations waits for number i. -/
def waitsB (md : Region.Mode) (ops : Array Oper) (i : Nat) (js : List Nat) : Bool := js.all fun j => j != i && match ops[j]? with
  | some o => o.after.any fun e => Region.binds md e && e.on == i
  | none => false

theorem waitsB_spec {i : Nat} {js : List Nat} (h : waitsB md ops i js = true) {j : Nat} (hj : j ∈ js) : j ≠ i ∧ ∃ o, ops[j]? = some o ∧ ∃ e ∈ o.after, Region.binds md e = true ∧ e.on = i := by
  have h1 := List.all_eq_true.1 h j hj
  simp only [Bool.and_eq_true, bne_iff_ne, ne_eq] at h1
  refine ⟨h1.1, ?_⟩
  cases ho : ops[j]? with
  | none => rw [ho] at h1; simp at h1
  | some o =>
    rw [ho] at h1
    have h2 := h1.2
    simp only at h2
    rw [Array.any_eq_true] at h2
    obtain ⟨k, hk, h3⟩ := h2
    simp only [Bool.and_eq_true, beq_iff_eq] at h3
    exact ⟨o, rfl, o.after[k], Array.getElem_mem hk, h3⟩

theorem AnyL.first {i : Nat} {oi : Oper} {v : Value} {js : List Nat} (hi : ops[i]? = some oi) (hsel : ∀ (j : Nat) (o : Oper) cs b, ops[j]? = some o → o.op ≠ .select cs b)
    (hQ : ∀ c a w, Q (.panic c) (a.put oi.dst v) w → Q (.panic c) a w) (hw : waitsB md ops i js = true) (hm : ∀ l w, S (l.setIfInBounds i true) w ↔ S l w) :
    ∀ (fuel : Nat) (listed : Array Bool) (a : Act) (w : World),
      (∀ j oj, ops[j]? = some oj → j ≠ i → listed.getD j true = false → (∀ e ∈ oj.after, Region.binds md e = true → e.on ≠ i) → oi.apart ops oj = true) →
      i ∈ Region.ready md ops listed → NoneOf js listed → YieldsIf P ops (Early S js) oi v a → S listed w →
      AnyL P md ops Q S fuel (listed.setIfInBounds i true) (a.put oi.dst v) w → AnyL P md ops Q S (fuel + 1) listed a w := by
  intro fuel
  induction fuel with
  | zero =>
    intro listed a w _ hr hn hy hS H
    refine ⟨fun h => (by rw [h] at hr; cases hr), fun j hj => ?_⟩
    by_cases hji : j = i
    · subst hji; exact hy.wpOp hi ⟨_, hn, hS⟩ ⟨(hm _ _).2 hS, H⟩
    · have := ready_mono hj hji
      rw [H.1] at this
      cases this
  | succ fuel ih =>
    intro listed a w hfree hr hn hy hS H
    refine ⟨fun h => (by rw [h] at hr; cases hr), fun j hj => ?_⟩
    by_cases hji : j = i
    · subst hji; exact hy.wpOp hi ⟨_, hn, hS⟩ ⟨(hm _ _).2 hS, H⟩
    · have h1 := H.2 j (ready_mono hj hji)
      obtain ⟨hjun, oj, hoj, hall⟩ := mem_ready.1 hj
      have hnot : ∀ e ∈ oj.after, Region.binds md e = true → e.on ≠ i := fun e he hb heq => by
        have h1 := hall e he hb
        have h0 := (mem_ready.1 hr).1
        rw [heq] at h1
        rcases Nat.lt_or_ge i listed.size with h' | h'
        · simp [h'] at h0 h1; rw [h0] at h1; cases h1
        · simp [Array.getElem?_eq_none h'] at h1
      have h2 := wpOp_putIf hoj (hfree j oj hoj hji hjun hnot) (fun cs b => hsel i oi cs b hi) (fun cs b => hsel j oj cs b hoj) hQ hy h1
      have hfree' : ∀ k ok, ops[k]? = some ok → k ≠ i → (listed.setIfInBounds j true).getD k true = false →
          (∀ e ∈ ok.after, Region.binds md e = true → e.on ≠ i) → oi.apart ops ok = true := fun k ok hk hki hun hno => by
        refine hfree k ok hk hki ?_ hno
        by_cases hjk : j = k
        · subst hjk; exact hjun
        · rw [getD_set_ne true hjk] at hun; exact hun
      have hn' : NoneOf js (listed.setIfInBounds j true) := fun x hx => by
        obtain ⟨hxi, o, ho, e, he, hb, hei⟩ := waitsB_spec hw hx
        by_cases hjx : j = x
        · subst hjx
          rw [hoj] at ho
          cases ho
          exact absurd hei (hnot e he hb)
        · rw [getD_set_ne true hjx]; exact hn x hx
      refine wpOp_mono (fun a' w' h3 => ?_) h2
      have hc : (listed.setIfInBounds i true).setIfInBounds j true = (listed.setIfInBounds j true).setIfInBounds i true := Array.setIfInBounds_comm _ _ (Ne.symm hji)
      have hS' : S (listed.setIfInBounds j true) w' := (hm _ _).1 (hc ▸ h3.2.1)
      refine ⟨hS', ih (listed.setIfInBounds j true) a' w' hfree' (ready_mono hr (Ne.symm hji)) hn' h3.1 hS' ?_⟩
      rw [← hc]
      exact h3.2.2

/-- Take number i first: nobody of 'js' has come up, and each of them waits for i. -/
theorem anyL_take {i : Nat} (js : List Nat) {oi : Oper} {v : Value} {fuel : Nat} {listed : Array Bool} {a : Act} {w : World} (hi : ops[i]? = some oi)
    (hs : Region.noSelect ops = true) (hf : Region.free md ops listed i = true) (hr : (Region.ready md ops listed).contains i = true)
    (hQ : ∀ c a w, Q (.panic c) (a.put oi.dst v) w → Q (.panic c) a w) (hw : waitsB md ops i js = true) (hn : (js.all fun j => !listed.getD j true) = true) (hm : ∀ l w, S (l.setIfInBounds i true) w ↔ S l w) (hy : YieldsIf P ops (Early S js) oi v a) (hS : S listed w)
    (h : AnyL P md ops Q S fuel (listed.setIfInBounds i true) (a.put oi.dst v) w) : AnyL P md ops Q S (fuel + 1) listed a w :=
  AnyL.first hi (Region.noSelect_spec hs) hQ hw hm fuel listed a w (Region.free_spec hi hf) (by simpa using hr) (fun j hj => by simpa using List.all_eq_true.1 hn j hj) hy hS h

theorem anyL_done {listed : Array Bool} {a : Act} {w : World} (hr : Region.ready md ops listed = []) (h : Q .normal a w) : ∀ fuel, AnyL P md ops Q S fuel listed a w
  | 0 => ⟨hr, h⟩
  | _ + 1 => ⟨fun _ => h, by rw [hr]; simp⟩

/-- One alone may come up. -/
theorem anyL_one {i : Nat} {o : Oper} {fuel : Nat} {listed : Array Bool} {a : Act} {w : World} (hr : Region.ready md ops listed = [i]) (ho : ops[i]? = some o)
    (h : ∀ K' : Act → World → Prop, Hid (∀ a w, S (listed.setIfInBounds i true) w → (S (listed.setIfInBounds i true) w → AnyL P md ops Q S fuel (listed.setIfInBounds i true) a w) → K' a w) → if Region.wanted o (yielded ops a.tmps) = true then Oper.wp P o a w K' Q else K' (a.put o.dst undef) w) :
    AnyL P md ops Q S (fuel + 1) listed a w :=
  ⟨fun h0 => absurd (hr ▸ h0) (by simp), by
    rw [hr]
    intro j hj
    obtain rfl := List.mem_singleton.1 hj
    exact wpOp_step ho (fun K' hK => h K' (fun a w hS hW => hK a w ⟨hS, hW hS⟩))⟩

/-- The beginning. -/
theorem wp_region_listed {id : Nat} {a : Act} {w : World} (hm : P.follows .mixedOrders = true) (hS : S (Array.replicate ops.size false) w.drew)
    (h : S (Array.replicate ops.size false) w.drew → AnyL P .any ops Q S ops.size (Array.replicate ops.size false) a w.drew) : (Code.region id ops true).wp P Q a w :=
  wp_region_any hm (h hS).any

end

theorem getD_set_iff {l : Array Bool} {i j : Nat} (h : i ≠ j) : ((l.setIfInBounds i true).getD j true = false) ↔ (l.getD j true = false) := by rw [getD_set_ne true h]
end Go.Proofs.Ytaioobhblfnlaaa
