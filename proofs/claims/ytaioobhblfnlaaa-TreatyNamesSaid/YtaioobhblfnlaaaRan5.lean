/- A range over an iterator, where what is yielded may lie in the iterator's own blocks, and a round may write blocks of its own. -/
import Derived.Test.YtaioobhblfnlaaaP3
namespace Go.Proofs.Ytaioobhblfnlaaa
open Go.RowKit

/-- An iterator's contract: it yields all, one by one, until a round has said 'no more'. It may write the blocks of Wr and those that are new; a round may not write the blocks of Rd. -/
def Gives5 {α : Type} (F : Fence) (n : Nat) (P : Program) (g : Nat) (lb : Array Value) (E : Nat → α → Value → World → Prop) (all : List α) (Wr Rd : Nat → Prop) (N : Nat) (w : World) : Prop :=
  ∀ (l : Nat) (J Jx : List α → World → Prop) (C : Nat → Prop) (W : World), Below w.heap.size w W → (∀ k, C k → (k < W.heap.size ∨ W.heap.size + N ≤ k) ∧ ¬ Rd k) →
    (∀ pre W1 W2, J pre W1 → Near (fun k => Wr k ∨ (W.heap.size ≤ k ∧ k < W.heap.size + N)) W1 W2 → J pre W2) → (∀ pre W1 W2, Jx pre W1 → Near (fun k => Wr k ∨ (W.heap.size ≤ k ∧ k < W.heap.size + N)) W1 W2 → Jx pre W2) →
    (∀ pre x rest W1 v, all = pre ++ x :: rest → W.heap.size + N ≤ W1.heap.size → E W.heap.size x v W1 → J pre W1 → YieldAt F (n - 1) P l #[v] W1 fun e W' =>
      (e = .returned (.bool true) ∧ J (pre ++ [x]) W' ∧ Near C W1 W') ∨ (e = .returned (.bool false) ∧ Jx (pre ++ [x]) W')) →
    J [] W →
    CallsIn F n P g (#[.func (.yield l) #[] #[]] ++ lb) W fun e W' => (∃ v, e = .returned v) ∧ (J all W' ∨ ∃ pre rest, pre ++ rest = all ∧ Jx pre W')

/-- A range over an iterator that writes cells of its own and blocks that lay before. -/
theorem wpIn_rangeFunc_near5 {α : Type} {F : Fence} {n : Nat} {P : Program} {g : Operand} {p : Tmp} {assign body : Code} {Q : Exit → Act → World → Prop} {a : Act} {w : World}
    (hro : F.round = none) (h1 : 1 ≤ n) {gf : Nat} {lb : Array Value} (hg : a.eval g = .func (.func gf) #[] lb) (hFg : F.fn gf) (eg : ∀ args w, (callFunc gf args).run P w = .ok (.enter gf args) w)
    {E : Nat → α → Value → World → Prop} {all : List α} {Wr Rd : Nat → Prop} {N : Nat} {w0 : World} (hseq : Gives5 F (n - 1) P gf lb E all Wr Rd N w0) (hb0 : Below w0.heap.size w0 w) (hRd : ∀ k, Rd k → k < w0.heap.size) (hWr : ∀ k, Wr k → k < w0.heap.size)
    (C : Nat → Prop) (hC : ∀ k, C k → (k < w.heap.size ∨ w.heap.size + (N + 2) ≤ k) ∧ ¬ Rd k)
    (I Ix : List α → World → Prop) (hI : ∀ pre W1 W2, I pre W1 → Near (fun k => Wr k ∨ (w.heap.size ≤ k ∧ k < w.heap.size + (N + 2))) W1 W2 → I pre W2) (hIx : ∀ pre W1 W2, Ix pre W1 → Near (fun k => Wr k ∨ (w.heap.size ≤ k ∧ k < w.heap.size + (N + 2))) W1 W2 → Ix pre W2)
    (h0 : I [] w)
    (hround : ∀ pre x rest W v, all = pre ++ x :: rest → w.heap.size + (N + 2) ≤ W.heap.size → E (w.heap.size + 2) x v W → I pre W →
      assign.wpIn (F.inRound (w.heap.size + 1)) (n - 1 - 1) P (Exit.then (fun a' W' => Near C W W' ∧ ∀ W'', Near (fun k => k = w.heap.size + 1) W' W'' → body.wpIn (F.inRound (w.heap.size + 1)) (n - 1 - 1) P (nearPost C I Ix (pre ++ [x]) W'') a' W'') (fun _ _ _ => False))
        { tmps := a.tmps.setIfInBounds p v, defers := [] } W)
    (hdone : ∀ W, I all W → W.heap[w.heap.size]? = some (.deferred (some [])) → w.heap.size + 2 ≤ W.heap.size → Q .normal { a with defers := { target := .collected w.heap.size, args := #[] } :: a.defers } W)
    (hstop : ∀ pre rest W, pre ++ rest = all → Ix pre W → W.heap[w.heap.size]? = some (.deferred (some [])) → w.heap.size + 2 ≤ W.heap.size → Code.ret.wpIn F n P Q { a with defers := { target := .collected w.heap.size, args := #[] } :: a.defers } W) :
    (Code.rangeFunc g #[p] assign body).wpIn F n P Q a w := by
  refine wpIn_rangeFunc ?_
  intro fn hfn
  rw [hro]
  obtain ⟨rec, hrec⟩ : ∃ rec : LoopState → Option Code → Loop, rec = fun st pe => { state := st, pending := pe, fn, tmps := a.tmps, params := #[p], assign, body, defers := w.heap.size } := ⟨_, rfl⟩
  obtain ⟨W1, hW1⟩ : ∃ W1, (w.alloc (.deferred (some []))).alloc (.loop (rec .ready none)) = W1 := ⟨_, rfl⟩
  have hsz1 : W1.heap.size = w.heap.size + 2 := by rw [← hW1]; simp
  have hL1 : W1.heap[w.heap.size + 1]? = some (.loop (rec .ready none)) := by
    rw [← hW1]; have := World.alloc_heap_new (w.alloc (.deferred (some []))) (.loop (rec .ready none)); rwa [World.size_alloc] at this
  have hK1 : W1.heap[w.heap.size]? = some (.deferred (some [])) := by
    rw [← hW1]; exact (Below.heap_alloc _ _ _ (by simp)).trans (World.alloc_heap_new w _)
  have hI1 : I [] W1 := by rw [← hW1]; exact hI _ _ _ h0 (((Near.refl _ _).alloc _).alloc _)
  have hb1 : Below w0.heap.size w0 W1 := by
    rw [← hW1]; exact hb0.trans ((((Below.refl _ w).alloc (Nat.le_refl _) _).alloc (by simp) _).mono hb0.size)
  refine ⟨w.heap.size + 1, [{ target := .collected w.heap.size, args := #[] }], W1, { target := .fn (.func gf) lb, args := #[.func (.yield (w.heap.size + 1)) #[] #[]] }, W1, gf,
    #[.func (.yield (w.heap.size + 1)) #[] #[]] ++ lb, W1, ?_, ?_, ?_, ?_, fun _ => h1, ?_⟩
  · rw [← hW1, hrec]; exact run_enterLoop_outer _ _ _ _ _
  · simp only [resolve, hg]
    simp [go_sem]
  · intro f' hf'; simp [Target.leads] at hf'; subst hf'; exact hFg
  · simp [invoke, go_sem, eg]
  · have hput : ∀ (s : List α) (W : World) (o : Obj), I s W → I s (W.putObj (w.heap.size + 1) o) := fun s W o h => hI _ _ _ h ((Near.putObj _ _).mono (by intro k _ e; right; omega))
    have hputx : ∀ (s : List α) (W : World) (o : Obj), Ix s W → Ix s (W.putObj (w.heap.size + 1) o) := fun s W o h => hIx _ _ _ h ((Near.putObj _ _).mono (by intro k _ e; right; omega))
    have hfar : ∀ {W W' : World} {k : Nat} {o : Obj}, Near (fun k => Wr k ∨ (W1.heap.size ≤ k ∧ k < W1.heap.size + N)) W W' → w.heap.size ≤ k → k < w.heap.size + 2 → W.heap[k]? = some o → W'.heap[k]? = some o := fun {W W' k o} hn h1 h2 h => by
      refine (hn.block k (Array.getElem?_eq_some_iff.1 h).1 ?_).trans h
      rintro (hh | hh)
      · have := hWr _ hh; have := hb0.size; omega
      · omega
    refine (hseq (w.heap.size + 1)
      (fun pre W => I pre W ∧ W.heap[w.heap.size + 1]? = some (.loop (rec .ready none)) ∧ W.heap[w.heap.size]? = some (.deferred (some [])))
      (fun pre W => Ix pre W ∧ W.heap[w.heap.size + 1]? = some (.loop (rec .done (some .ret))) ∧ W.heap[w.heap.size]? = some (.deferred (some [])))
      (fun k => C k ∨ k = w.heap.size + 1) W1 hb1
      (fun k hk => by
        rcases hk with hk | rfl
        · exact ⟨by have := (hC k hk).1; omega, (hC k hk).2⟩
        · exact ⟨by omega, fun hr => by have := hRd _ hr; have := hb0.size; omega⟩)
      (fun s A B hs hn => ⟨hI s A B hs.1 (hn.mono (by rintro k _ (h | h); exact .inl h; right; omega)), hfar hn (by omega) (by omega) hs.2.1, hfar hn (by omega) (by omega) hs.2.2⟩)
      (fun s A B hs hn => ⟨hIx s A B hs.1 (hn.mono (by rintro k _ (h | h); exact .inl h; right; omega)), hfar hn (by omega) (by omega) hs.2.1, hfar hn (by omega) (by omega) hs.2.2⟩)
      ?_ ⟨hI1, hL1, hK1⟩).mono ?_
    · rintro pre x rest W v hall hsz3 hE ⟨hi, hl, hk⟩
      have hlt : w.heap.size + 1 < W.heap.size := (Array.getElem?_eq_some_iff.1 hl).1
      have hy := run_yield (P := P) (args := #[v]) hl (by rw [hrec]; rfl)
      rw [hrec] at hy
      refine ⟨fn, _, assign, body, hy, roundIn_of_wpIn hfn ?_⟩
      clear hy
      have he : ∀ T : Array Value, ((#[p].zip #[v]).foldl (fun (tmps : Array Value) (t, a) => tmps.setIfInBounds t a) T) = T.setIfInBounds p v := fun T => by simp
      show Code.wpIn _ _ _ _ _ { tmps := ((#[p].zip #[v]).foldl (fun (tmps : Array Value) (t, a) => tmps.setIfInBounds t a) a.tmps), defers := [] } W
      rw [he]
      refine wpIn_mono (hround pre x rest W v hall (by omega) (by rw [hsz1] at hE; exact hE) hi) ?_
      have hkeep : ∀ {A B : World} {k : Nat} {o : Obj}, Near C A B → w.heap.size ≤ k → k < w.heap.size + 2 → A.heap[k]? = some o → B.heap[k]? = some o := fun {A B k o} hn h1 h2 h =>
        (hn.block k (Array.getElem?_eq_some_iff.1 h).1 (fun hc => by have := (hC k hc).1; omega)).trans h
      rintro e a' Wa hp
      cases e with
      | normal =>
        obtain ⟨hn, hbody⟩ := hp
        have hla := hkeep hn (by omega) (by omega) hl
        have hka := hkeep hn (Nat.le_refl _) (by omega) hk
        have hlta : w.heap.size + 1 < Wa.heap.size := (Array.getElem?_eq_some_iff.1 hla).1
        refine ⟨_, run_beginRound hla (by rw [hrec]), ?_⟩
        refine wpIn_mono (hbody _ (Near.putObj _ _)) ?_
        have hl2 : (Wa.putObj (w.heap.size + 1) (.loop { rec .ready none with state := .busy })).heap[w.heap.size + 1]? = some (.loop { rec .ready none with state := .busy }) := World.putObj_heap_same hlta
        have hk2 : (Wa.putObj (w.heap.size + 1) (.loop { rec .ready none with state := .busy })).heap[w.heap.size]? = some (.deferred (some [])) := (World.putObj_heap_other (by omega)).trans hka
        have fin : ∀ (jump : Option Code) (W3 : World), Near C (Wa.putObj (w.heap.size + 1) (.loop { rec .ready none with state := .busy })) W3 →
            (Instr.endRound (w.heap.size + 1) jump).run P W3 = .ok (.bool jump.isNone) (W3.putObj (w.heap.size + 1) (.loop (rec (if jump.isNone then .ready else .done) jump))) ∧
            (W3.putObj (w.heap.size + 1) (.loop (rec (if jump.isNone then .ready else .done) jump))).heap[w.heap.size + 1]? = some (.loop (rec (if jump.isNone then .ready else .done) jump)) ∧
            (W3.putObj (w.heap.size + 1) (.loop (rec (if jump.isNone then .ready else .done) jump))).heap[w.heap.size]? = some (.deferred (some [])) := fun jump W3 hk3 => by
          have hl3 := hkeep hk3 (by omega) (by omega) hl2
          have := run_endRound (P := P) jump hl3
          rw [hrec] at this ⊢
          exact ⟨this, World.putObj_heap_same (Array.getElem?_eq_some_iff.1 hl3).1, (World.putObj_heap_other (by omega)).trans (hkeep hk3 (Nat.le_refl _) (by omega) hk2)⟩
        rintro e a3 W3 hp
        cases e with
        | normal =>
          obtain ⟨hk3, hi3⟩ := hp
          obtain ⟨hr, hl4, hk4⟩ := fin none W3 hk3
          refine ⟨_, _, hr, .inl ⟨rfl, ⟨hput _ _ _ hi3, hl4, hk4⟩, ?_⟩⟩
          exact (((hn.mono (fun k _ h => .inl h)).trans ((Near.putObj _ _).mono (fun k _ h => .inr h))).trans (hk3.mono (fun k _ h => .inl h))).trans ((Near.putObj _ _).mono (fun k _ h => .inr h))
        | ret =>
          obtain ⟨hk3, hi3⟩ := hp
          obtain ⟨hr, hl4, hk4⟩ := fin (some .ret) W3 hk3
          exact ⟨_, _, hr, .inr ⟨rfl, hputx _ _ _ hi3, hl4, hk4⟩⟩
        | exit id => exact hp.elim
        | goto t => exact hp.elim
        | panic ch => exact hp.elim
        | outgrown => exact hp.elim
      | exit id => exact hp.elim
      | goto t => exact hp.elim
      | ret => exact hp.elim
      | panic ch => exact hp.elim
      | outgrown => exact hp.elim
    · rintro e W2 ⟨⟨v, rfl⟩, (⟨hi, hl, hk⟩ | ⟨pre, rest, hpr, hi, hl, hk⟩)⟩
      · have hlt := (Array.getElem?_eq_some_iff.1 hl).1
        exact ⟨none, _, by have := run_endLoop (P := P) hl (by rw [hrec]; simp); rw [hrec] at this; exact this, hdone _ (hput _ _ _ hi) ((World.putObj_heap_other (by omega)).trans hk) (by simp; omega)⟩
      · have hlt := (Array.getElem?_eq_some_iff.1 hl).1
        exact ⟨some .ret, _, by have := run_endLoop (P := P) hl (by rw [hrec]; simp); rw [hrec] at this; exact this, hstop pre rest _ hpr (hputx _ _ _ hi) ((World.putObj_heap_other (by omega)).trans hk) (by simp; omega)⟩
end Go.Proofs.Ytaioobhblfnlaaa
