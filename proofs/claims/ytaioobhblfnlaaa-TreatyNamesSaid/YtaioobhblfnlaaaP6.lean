/- Package treaty: what is paid in all truths, one by one. No condition but a valid programme. -/
import Derived.Test.YtaioobhblfnlaaaP5
import Derived.Test.YtaioobhblfnlaaaRan6
import Derived.Laws.EntriesVeiled
import Derived.RangeFuncCalls
import Derived.RangeFuncLeaves
import Derived.LoopIn
import Derived.LoopNIn
import Derived.Shelf.Abstract
import Derived.OwnWalkIn
import Derived.TacticsInMore
namespace Go.Proofs.Ytaioobhblfnlaaa
open Go.RowKit

attribute [local go_sem] Oper.semAt_some
/-- A block of a slice's. -/
def InS (p : Option Addr) (n k : Nat) : Prop := ∃ a, p = some a ∧ 0 < n ∧ k = a.block
/-- A programme at work; the map knows at most nn states. -/
structure WkS (W : World) (p : Prg) (lp : Option Addr) (ln lc : Nat) (tp : Option Addr) (tn tc : Nat) (rp : Option Addr) (rn rc : Nat) (th : Nat → Bool) (bw bm nn : Nat) : Prop where
  box : BoxIs bw (workC p lp ln lc tp tn tc rp rn rc th bm) W
  pa : PrgAt W p lp ln tp tn rp rn
  kn : ∃ M, MapV W 163 bm nn M ∧ Knows p.ts th M
/-- No slice lies where the map does. -/
structure NotM (bm : Nat) (lp : Option Addr) (ln : Nat) (tp : Option Addr) (tn : Nat) (rp : Option Addr) (rn : Nat) : Prop where
  l : ¬ InS lp ln bm
  t : ¬ InS tp tn bm
  r : ¬ InS rp rn bm
theorem WkS.more {W : World} {p : Prg} {lp : Option Addr} {ln lc : Nat} {tp : Option Addr} {tn tc : Nat} {rp : Option Addr} {rn rc : Nat} {th : Nat → Bool} {bw bm nn mm : Nat} (h : WkS W p lp ln lc tp tn tc rp rn rc th bw bm nn) (hn : nn ≤ mm) : WkS W p lp ln lc tp tn tc rp rn rc th bw bm mm :=
  ⟨h.box, h.pa, by obtain ⟨M, h1, h2⟩ := h.kn; exact ⟨M, h1.more hn, h2⟩⟩
theorem WkS.bmlt {W : World} {p : Prg} {lp : Option Addr} {ln lc : Nat} {tp : Option Addr} {tn tc : Nat} {rp : Option Addr} {rn rc : Nat} {th : Nat → Bool} {bw bm nn : Nat} (h : WkS W p lp ln lc tp tn tc rp rn rc th bw bm nn) : bm < W.heap.size := by obtain ⟨M, h1, _⟩ := h.kn; exact h1.lt
theorem WkS.bne {W : World} {p : Prg} {lp : Option Addr} {ln lc : Nat} {tp : Option Addr} {tn tc : Nat} {rp : Option Addr} {rn rc : Nat} {th : Nat → Bool} {bw bm nn : Nat} (h : WkS W p lp ln lc tp tn tc rp rn rc th bw bm nn) : bw ≠ bm := by obtain ⟨M, h1, _⟩ := h.kn; exact h1.ne (h.box.2 9 (.map (some bm)) rfl).1
def RdW (bw bm : Nat) (lp : Option Addr) (ln : Nat) (tp : Option Addr) (tn : Nat) (rp : Option Addr) (rn : Nat) (k : Nat) : Prop := k = bw ∨ k = bm ∨ InS lp ln k ∨ InS tp tn k ∨ InS rp rn k
theorem rows_lt {α : Type} {enc : α → List Value} {z : Nat} {W : World} {p : Option Addr} {n : Nat} {l : List α} (h : RowsAt enc z W p n l) {k : Nat} (hk : InS p n k) : k < W.heap.size := by
  obtain ⟨a, ha, h0, rfl⟩ := hk
  obtain ⟨_, _, b, o, e, hlt, _⟩ := h.at h0
  rw [ha] at e; cases e; exact hlt
theorem WkS.rd {W : World} {p : Prg} {lp : Option Addr} {ln lc : Nat} {tp : Option Addr} {tn tc : Nat} {rp : Option Addr} {rn rc : Nat} {th : Nat → Bool} {bw bm nn : Nat} (h : WkS W p lp ln lc tp tn tc rp rn rc th bw bm nn) {k : Nat} (hk : RdW bw bm lp ln tp tn rp rn k) : k < W.heap.size := by
  rcases hk with rfl | rfl | hk | hk | hk
  · exact h.box.1
  · exact h.bmlt
  · exact rows_lt h.pa.l hk
  · exact rows_lt h.pa.t hk
  · exact rows_lt h.pa.r hk
theorem WkS.kept {W W' : World} {p : Prg} {lp : Option Addr} {ln lc : Nat} {tp : Option Addr} {tn tc : Nat} {rp : Option Addr} {rn rc : Nat} {th : Nat → Bool} {bw bm nn mm : Nat} (h : WkS W p lp ln lc tp tn tc rp rn rc th bw bm nn) (hs : W.heap.size ≤ W'.heap.size) (hb : ∀ k, RdW bw bm lp ln tp tn rp rn k → k ≠ bm → k < W.heap.size → W'.heap[k]? = W.heap[k]?) (hm : NotM bm lp ln tp tn rp rn)
    (hk : ∃ M, MapV W' 163 bm mm M ∧ Knows p.ts th M) : WkS W' p lp ln lc tp tn tc rp rn rc th bw bm mm := by
  have hbox := hb bw (.inl rfl) h.bne h.box.1
  refine ⟨⟨Nat.lt_of_lt_of_le h.box.1 hs, fun k v hv => ⟨(World.cell?_of_block hbox).trans (h.box.2 k v hv).1, (World.frozen?_of_block hbox).trans (h.box.2 k v hv).2⟩⟩, ⟨?_, ?_, ?_⟩, hk⟩
  · exact h.pa.l.kept hs fun a ha h0 hlt => hb _ (.inr (.inr (.inl ⟨a, ha, h0, rfl⟩))) (fun e => hm.l ⟨a, ha, h0, e.symm⟩) hlt
  · exact h.pa.t.kept hs fun a ha h0 hlt => hb _ (.inr (.inr (.inr (.inl ⟨a, ha, h0, rfl⟩)))) (fun e => hm.t ⟨a, ha, h0, e.symm⟩) hlt
  · exact h.pa.r.kept hs fun a ha h0 hlt => hb _ (.inr (.inr (.inr (.inr ⟨a, ha, h0, rfl⟩)))) (fun e => hm.r ⟨a, ha, h0, e.symm⟩) hlt
theorem WkS.near {S : Nat → Prop} {W W' : World} {p : Prg} {lp : Option Addr} {ln lc : Nat} {tp : Option Addr} {tn tc : Nat} {rp : Option Addr} {rn rc : Nat} {th : Nat → Bool} {bw bm nn : Nat} (h : WkS W p lp ln lc tp tn tc rp rn rc th bw bm nn) (hm : NotM bm lp ln tp tn rp rn) (hn : Near S W W') (hS : ∀ k, RdW bw bm lp ln tp tn rp rn k → ¬ S k) : WkS W' p lp ln lc tp tn tc rp rn rc th bw bm nn :=
  h.kept hn.size (fun k hk _ hlt => hn.block k hlt (hS k hk)) hm (by obtain ⟨M, h1, h2⟩ := h.kn; exact ⟨M, h1.kept (hn.block _ h1.lt (hS _ (.inr (.inl rfl)))), h2⟩)
theorem WkS.below {W W' : World} {p : Prg} {lp : Option Addr} {ln lc : Nat} {tp : Option Addr} {tn tc : Nat} {rp : Option Addr} {rn rc : Nat} {th : Nat → Bool} {bw bm nn : Nat} (h : WkS W p lp ln lc tp tn tc rp rn rc th bw bm nn) (hm : NotM bm lp ln tp tn rp rn) (hb : Below W.heap.size W W') : WkS W' p lp ln lc tp tn tc rp rn rc th bw bm nn :=
  h.near hm (near_below (S := fun _ => False) hb) (fun _ _ h => h)
/-- What the iterator reads: the programme at work, the list of reports that are out, and the boxes of these. -/
structure SrcT (W : World) (p : Prg) (lp : Option Addr) (ln lc : Nat) (tp : Option Addr) (tn tc : Nat) (rp : Option Addr) (rn rc : Nat) (th : Nat → Bool) (bw bm nn b1 b2 : Nat) (op : Option Addr) (on oc : Nat) (outl : List Int) : Prop where
  wk : WkS W p lp ln lc tp tn tc rp rn rc th bw bm nn
  c1 : W.cell? ⟨b1, 0, none⟩ = some (.pointer (some ⟨bw, 0, none⟩))
  c2 : W.cell? ⟨b2, 0, none⟩ = some (.slice op on oc)
  ou : IntsAt W op on outl
def RdT (bw bm b1 b2 : Nat) (lp : Option Addr) (ln : Nat) (tp : Option Addr) (tn : Nat) (rp : Option Addr) (rn : Nat) (op : Option Addr) (on : Nat) (k : Nat) : Prop := RdW bw bm lp ln tp tn rp rn k ∨ k = b1 ∨ k = b2 ∨ InS op on k
theorem ints_lt {W : World} {p : Option Addr} {n : Nat} {l : List Int} (h : IntsAt W p n l) {k : Nat} (hk : InS p n k) : k < W.heap.size := by
  obtain ⟨a, ha, h0, rfl⟩ := hk
  obtain ⟨b, o, e, hlt, _⟩ := h.at h0
  rw [ha] at e; cases e; exact hlt
theorem SrcT.rd {W : World} {p : Prg} {lp : Option Addr} {ln lc : Nat} {tp : Option Addr} {tn tc : Nat} {rp : Option Addr} {rn rc : Nat} {th : Nat → Bool} {bw bm nn b1 b2 : Nat} {op : Option Addr} {on oc : Nat} {outl : List Int} (h : SrcT W p lp ln lc tp tn tc rp rn rc th bw bm nn b1 b2 op on oc outl) {k : Nat} (hk : RdT bw bm b1 b2 lp ln tp tn rp rn op on k) : k < W.heap.size := by
  rcases hk with hk | rfl | rfl | hk
  · exact h.wk.rd hk
  · exact World.block_lt_of_cell? _ _ h.c1
  · exact World.block_lt_of_cell? _ _ h.c2
  · exact ints_lt h.ou hk
theorem SrcT.kept {W W' : World} {p : Prg} {lp : Option Addr} {ln lc : Nat} {tp : Option Addr} {tn tc : Nat} {rp : Option Addr} {rn rc : Nat} {th : Nat → Bool} {bw bm nn mm b1 b2 : Nat} {op : Option Addr} {on oc : Nat} {outl : List Int} (h : SrcT W p lp ln lc tp tn tc rp rn rc th bw bm nn b1 b2 op on oc outl) (hs : W.heap.size ≤ W'.heap.size) (hb : ∀ k, RdT bw bm b1 b2 lp ln tp tn rp rn op on k → k ≠ bm → k < W.heap.size → W'.heap[k]? = W.heap[k]?) (hm : NotM bm lp ln tp tn rp rn) (ho : ¬ InS op on bm) (h1 : b1 ≠ bm) (h2 : b2 ≠ bm)
    (hk : ∃ M, MapV W' 163 bm mm M ∧ Knows p.ts th M) : SrcT W' p lp ln lc tp tn tc rp rn rc th bw bm mm b1 b2 op on oc outl := by
  refine ⟨h.wk.kept hs (fun k hk hne hlt => hb k (.inl hk) hne hlt) hm hk, ?_, ?_, ?_⟩
  · exact (World.cell?_of_block (hb b1 (.inr (.inl rfl)) h1 (World.block_lt_of_cell? _ _ h.c1))).trans h.c1
  · exact (World.cell?_of_block (hb b2 (.inr (.inr (.inl rfl))) h2 (World.block_lt_of_cell? _ _ h.c2))).trans h.c2
  · exact h.ou.kept fun a ha h0 hlt => hb _ (.inr (.inr (.inr ⟨a, ha, h0, rfl⟩))) (fun e => ho ⟨a, ha, h0, e.symm⟩) hlt
theorem SrcT.near {S : Nat → Prop} {W W' : World} {p : Prg} {lp : Option Addr} {ln lc : Nat} {tp : Option Addr} {tn tc : Nat} {rp : Option Addr} {rn rc : Nat} {th : Nat → Bool} {bw bm nn b1 b2 : Nat} {op : Option Addr} {on oc : Nat} {outl : List Int} (h : SrcT W p lp ln lc tp tn tc rp rn rc th bw bm nn b1 b2 op on oc outl) (hm : NotM bm lp ln tp tn rp rn) (ho : ¬ InS op on bm) (hn : Near S W W') (hS : ∀ k, RdT bw bm b1 b2 lp ln tp tn rp rn op on k → ¬ S k) : SrcT W' p lp ln lc tp tn tc rp rn rc th bw bm nn b1 b2 op on oc outl := by
  obtain ⟨M, hM, hK⟩ := h.wk.kn
  exact h.kept hn.size (fun k hk _ hlt => hn.block k hlt (hS k hk)) hm ho (hM.ne h.c1) (hM.ne h.c2) ⟨M, hM.kept (hn.block _ hM.lt (hS _ (.inl (.inr (.inl rfl))))), hK⟩
/-- What is yielded. -/
def ET (_ : Nat) (x : (Nat → Int) × Int) (v : Value) (_ : World) : Prop := v = .agg (resC x.1 x.2)
/-- The truths among some lists. -/
def fltO (p : Prg) (th : Nat → Bool) (outl : List Int) (L : List (List Int)) : List ((Nat → Int) × Int) := (L.map (paysS p.ts th)).filter fun r => rightO r.1 p.reps outl
theorem flt_snoc (p : Prg) (th : Nat → Bool) (outl : List Int) (L : List (List Int)) (x : List Int) : fltO p th outl (L ++ [x]) = fltO p th outl L ++ if rightO (paysS p.ts th x).1 p.reps outl = true then [paysS p.ts th x] else [] := by
  unfold fltO
  rw [List.map_append, List.filter_append]
  congr 1
  simp only [List.map_cons, List.map_nil, List.filter_cons, List.filter_nil]
theorem flt_all {p : Prg} {th : Nat → Bool} {outl : List Int} {pre rest : List (List Int)} {x : List Int} (h : listsL p.losses = pre ++ x :: rest) (hr : rightO (paysS p.ts th x).1 p.reps outl = true) : truO p th outl = fltO p th outl pre ++ paysS p.ts th x :: fltO p th outl rest := by
  unfold truO fltO
  rw [h, List.map_append, List.filter_append, List.map_cons, List.filter_cons, if_pos hr]
theorem flt_done {p : Prg} {th : Nat → Bool} {outl : List Int} {pre rest : List (List Int)} (h : pre ++ rest = listsL p.losses) : ∃ q, fltO p th outl pre ++ q = truO p th outl := ⟨fltO p th outl rest, by unfold truO fltO; rw [← h, List.map_append, List.filter_append]⟩
/-- The first k reports are right, or out. -/
def rightTo (f : Nat → Int) (reps : List Rep) (out : List Int) (k : Nat) : Prop := ∀ (i : Nat) x, i < k → reps[i]? = some x → (i : Int) ∉ out → rightB f x = true
theorem rightTo_all {f : Nat → Int} {reps : List Rep} {out : List Int} {k : Nat} (hk : k = reps.length) : rightTo f reps out k → rightO f reps out = true := fun h => rightO_iff.2 fun i x hx ho => h i x (by have := (List.getElem?_eq_some_iff.1 hx).1; omega) hx ho
theorem rightTo_succ {f : Nat → Int} {reps : List Rep} {out : List Int} {k : Nat} {x : Rep} (h : rightTo f reps out k) (hx : reps[k]? = some x) (hr : hasB out (k : Int) = true ∨ rightB f x = true) : rightTo f reps out (k + 1) := by
  intro i y hi hy ho
  by_cases e : i = k
  · subst e
    rw [hx] at hy; cases hy
    rcases hr with hr | hr
    · exact absurd ((hasB_mem _ _).1 hr) ho
    · exact hr
  · exact h i y (by omega) hy ho
theorem rightTo_not {f : Nat → Int} {reps : List Rep} {out : List Int} {k : Nat} {x : Rep} (hx : reps[k]? = some x) (ho : hasB out (k : Int) = false) (hr : rightB f x = false) : rightO f reps out = false := by
  refine Bool.eq_false_iff.2 fun h => ?_
  have := rightO_iff.1 h k x hx (fun hm => by rw [(hasB_mem _ _).2 hm] at ho; cases ho)
  rw [hr] at this; cases this
theorem lists_len {p : Prg} (ok : OkP p) : (listsL p.losses).length ≤ 1500 := by
  have key : ∀ l : List Rng, (∀ r ∈ l, 1 ≤ r.cnt) → ((listsL l).length : Int) = prodL l := by
    intro l
    induction l with
    | nil => intro _; rfl
    | cons r l ih =>
      intro h
      have h1 := h r (by simp)
      have h2 := ih fun q hq => h q (by simp [hq])
      rw [listsL, prodL, ← h2]
      have e : ∀ L : List Int, (L.flatMap fun x => (listsL l).map (x :: ·)).length = L.length * (listsL l).length := by
        intro L
        induction L with
        | nil => simp
        | cons a L ih2 => rw [List.flatMap_cons, List.length_append, ih2, List.length_map, List.length_cons, Nat.succ_mul]; omega
      rw [e, Rng.nums, List.length_map, List.length_range]
      push_cast
      rw [Int.toNat_of_nonneg (by omega)]
  have := key p.losses ok.cnt
  have := ok.many
  omega

set_option maxRecDepth 20000 in
set_option maxHeartbeats 1000000 in
theorem truths_any (bw : Nat) (op : Option Addr) (on oc : Nat) (w : World) : Calls Try.prog 93 #[.pointer (some ⟨bw, 0, none⟩), .slice op on oc] w fun e w' => e = .returned (.func (.func 119) #[] #[.pointer (some ⟨w.heap.size, 0, none⟩), .pointer (some ⟨(w.heap.size + 1), 0, none⟩)]) ∧ w' = (w.alloc (.cells #[.pointer (some ⟨bw, 0, none⟩)] 119)).alloc (.cells #[.slice op on oc] 27) := by
  go_enter Try.func93, Try.ntmps93
  go_wp2_with fail
  go_ret
  exact ⟨rfl, rfl⟩

set_option maxRecDepth 100000 in
set_option maxHeartbeats 8000000 in
theorem truths_gives (p : Prg) (lp : Option Addr) (ln lc : Nat) (tp : Option Addr) (tn tc : Nat) (rp : Option Addr) (rn rc : Nat) (th : Nat → Bool) (bw bm nn b1 b2 : Nat) (op : Option Addr) (on oc : Nat) (outl : List Int) (w : World) (k : Nat) (ok : OkP p) (hS : SrcT w p lp ln lc tp tn tc rp rn rc th bw bm nn b1 b2 op on oc outl) (hM : NotM bm lp ln tp tn rp rn) (hO : ¬ InS op on bm) (hnn : nn + 6000 < maxLen) (hon : on ≤ 100000) :
    Gives6 Fence.wide k Try.prog 119 #[.pointer (some ⟨b1, 0, none⟩), .pointer (some ⟨b2, 0, none⟩)] ET (truO p th outl) (fun i => i = bm) (RdT bw bm b1 b2 lp ln tp tn rp rn op on) (fun V => WkS V p lp ln lc tp tn tc rp rn rc th bw bm (nn + 6000)) 8 w := by
  intro l0 J Jx C W hW hC hJ hJx hY h0
  refine (callsIn_wide (n := k)).2 ((callsIn_wide (n := 22)).1 ?_)
  have hl4 : ln ≤ 4 := by rw [hS.wk.pa.l.1]; exact ok.n4
  have hr5 : rn ≤ 5 := by rw [hS.wk.pa.r.1]; exact ok.k5
  have ht5 : p.ts.length ≤ 5 := ok.m5
  have hs0 : SrcT W p lp ln lc tp tn tc rp rn rc th bw bm nn b1 b2 op on oc outl := hS.near hM hO (Near.of_below (S := fun _ => False) hW (fun k h1 h2 => by omega)) (fun _ _ h => h)
  have hrd : ∀ i, RdT bw bm b1 b2 lp ln tp tn rp rn op on i → i < W.heap.size := fun i hi => hs0.rd hi
  have hbm1 : b1 ≠ bm := by obtain ⟨M, h1, _⟩ := hs0.wk.kn; exact h1.ne hs0.c1
  have hbm2 : b2 ≠ bm := by obtain ⟨M, h1, _⟩ := hs0.wk.kn; exact h1.ne hs0.c2
  have hargs : (#[.func (.yield l0) #[] #[]] ++ #[.pointer (some ⟨b1, 0, none⟩), .pointer (some ⟨b2, 0, none⟩)] : Array Value) = #[.func (.yield l0) #[] #[], .pointer (some ⟨b1, 0, none⟩), .pointer (some ⟨b2, 0, none⟩)] := rfl
  rw [hargs]
  obtain ⟨W1, hW1⟩ : ∃ V, W.alloc (.cells #[.func (.yield l0) #[] #[]] 165) = V := ⟨_, rfl⟩
  obtain ⟨W2, hW2⟩ : ∃ V, W1.alloc (.cells #[.slice lp ln lc] 33) = V := ⟨_, rfl⟩
  have hz1 : W1.heap.size = W.heap.size + 1 := by rw [← hW1]; simp
  have hz2 : W2.heap.size = W.heap.size + 2 := by rw [← hW2]; simp; omega
  have hb1 : Below W.heap.size W W1 := by rw [← hW1]; exact (Below.refl _ _).alloc (Nat.le_refl _) _
  have hb2 : Below W1.heap.size W1 W2 := by rw [← hW2]; exact (Below.refl _ _).alloc (Nat.le_refl _) _
  have hY1 : BoxIs W.heap.size #[.func (.yield l0) #[] #[]] W1 := by rw [← hW1]; exact BoxIs.start _ _ _
  have hY2 := hY1.below hb2
  have hs1 : SrcT W1 p lp ln lc tp tn tc rp rn rc th bw bm nn b1 b2 op on oc outl := hs0.near hM hO (near_below (S := fun _ => False) hb1) (fun _ _ h => h)
  have hs2 : SrcT W2 p lp ln lc tp tn tc rp rn rc th bw bm nn b1 b2 op on oc outl := hs1.near hM hO (near_below (S := fun _ => False) hb2) (fun _ _ h => h)
  have hsl : SrcL W2 (W.heap.size + 1) lp ln lc p.losses := ⟨by rw [← hz1, ← hW2]; exact cell_box W1 _ 33 0 _ rfl, hs2.wk.pa.l⟩
  have hj2 : J [] W2 := hJ _ _ _ h0 (Near.of_below (hb1.trans (hb2.mono (by omega))) (fun i h1 h2 => by omega))
  have HG := hid (lists_gives (W.heap.size + 1) ln lc lp p.losses hl4 ok.loss W2 21 hsl)
  have HS1 := hid hs1; have HS2 := hid hs2; have HRD := hid hrd; have HC := hid hC; have HJ := hid hJ; have HJX := hid hJx; have HY := hid hY; have HOK := hid ok; have HB1 := hid hb1; have HB2 := hid hb2; have HY2 := hid hY2; have HJ2 := hid hj2; have HM := hid hM; have HO := hid hO; have HLEN := hid (lists_len ok); have HY1 := hid hY1
  have hcc1 := hs1.c1; have hk := hs1.wk.box
  have e0 := (hk.2 0 (.slice lp ln lc) rfl).1; have e1 := (hk.2 1 (.int .i64 p.reserve) rfl).1; have e2 := (hk.2 2 (.slice tp tn tc) rfl).1; have e3 := (hk.2 3 (.slice rp rn rc) rfl).1
  have HRL := hid (fun i (hi : RdL (W.heap.size + 1) lp ln i) => hsl.rd i hi)
  have HCC : Hid (∀ i, C i ∨ i = bm → (i < W2.heap.size ∨ W2.heap.size + (4 + 2) ≤ i) ∧ ¬ RdL (W.heap.size + 1) lp ln i) := hid (fun i hi => by
    rcases hi with hi | rfl
    · obtain ⟨h1, h2⟩ := hC i hi
      refine ⟨by omega, ?_⟩
      rintro (h3 | h3)
      · omega
      · exact h2 (.inl (.inr (.inr (.inl h3))))
    · have h1 := hrd i (.inl (.inr (.inl rfl)))
      refine ⟨by omega, ?_⟩
      rintro (h3 | h3)
      · omega
      · exact hM.l h3)
  clear hS hs0 hs1 hs2 hrd hC hJ hJx hY h0 ok hb1 hb2 hY1 hY2 hj2 hM hO hW hk hsl
  refine callsIn_of_wp_marks Try.func119 rfl trivial ?_ rfl
  simp only [Try.ntmps119, List.size_toArray, List.length_cons, List.length_nil, Nat.reduceAdd, Nat.reduceSub, Array.replicate_succ, Array.replicate_zero, List.push_toArray, List.append_toArray, List.nil_append, List.cons_append]
  gi_wp2
  refine wpIn_scope_straight ?_
  gi_wp2
  refine wpIn_label ?_
  gi_wp2
  refine ⟨trivial, ?_⟩
  gi_at_call 120
  refine (callsIn_wide.2 (lists_any _ _ _ _)).mono ?_
  rintro e w5 ⟨rfl, rfl⟩
  clear hcc1 e0 e1 e2 e3
  rw [hW2]
  clear hW1 hW2
  gi_wp2
  refine wpIn_rangeFunc_near5 rfl (by omega) (gf := 130) (lb := #[.pointer (some ⟨W.heap.size + 1, 0, none⟩)]) rfl trivial (enters_of Try.func130 (by kernel_rfl) rfl)
    HG.out (Below.refl _ _) HRL.out (fun i hi => hi.elim) (fun i => C i ∨ i = bm) HCC.out
    (fun pre V => J (fltO p th outl pre) V ∧ SrcT V p lp ln lc tp tn tc rp rn rc th bw bm (nn + 4 * pre.length) b1 b2 op on oc outl ∧ BoxIs W.heap.size #[.func (.yield l0) #[] #[]] V)
    (fun pre V => (∃ q r, q ++ r = truO p th outl ∧ Jx q V) ∧ SrcT V p lp ln lc tp tn tc rp rn rc th bw bm (nn + 6000) b1 b2 op on oc outl)
    (fun pre V1 V2 h hn => ⟨HJ.out _ _ _ h.1 (hn.mono (fun i _ hi => by rcases hi with hi | hi; exact hi.elim; right; omega)), h.2.1.near HM.out HO.out hn (fun i hi hi2 => by have := HRD.out i hi; rcases hi2 with hi2 | hi2; exact hi2; omega), h.2.2.far hn (by rintro (hi2 | hi2); exact hi2; omega)⟩)
    (fun pre V1 V2 h hn => ⟨by obtain ⟨⟨q, r, hq, hx⟩, _⟩ := h; exact ⟨q, r, hq, HJX.out _ _ _ hx (hn.mono (fun i _ hi => by rcases hi with hi | hi; exact hi.elim; right; omega))⟩, h.2.near HM.out HO.out hn (fun i hi hi2 => by have := HRD.out i hi; rcases hi2 with hi2 | hi2; exact hi2; omega)⟩)
    ⟨HJ2.out, HS2.out, HY2.out⟩ ?round ?done ?stop
  case round =>
    rintro pre x rest V v hall hsz ⟨rfl, hxb, hxl⟩ ⟨hj, hs, hy⟩
    have hlst : listedB p.losses x = true := mem_lists.1 (by rw [hall]; simp)
    have hpl : pre.length < 1500 := by have h1 := HLEN.out; rw [hall] at h1; simp at h1; omega
    have HXB := hid (listed_bd HOK.out.loss hlst)
    have HALL := hid hall; have HXL := hid hxl; have HPL := hid hpl; have HSZ := hid hsz; have HJV := hid hj; have HSV := hid hs; have HYV := hid hy; have HXV := hid hxb
    have HZ1 := hid hz1; have HZ2 := hid hz2
    clear hall hsz hxb hxl hj hs hy hlst hpl hz1 hz2
    gi_wp2
    refine ⟨Near.refl _ _, fun V2 hn2 => ?_⟩
    have HJ3 := hid (HJ.out _ _ _ HJV.out (hn2.mono (fun i _ hi => by right; have := HZ2.out; omega)))
    have HS3 := hid (HSV.out.near HM.out HO.out hn2 (fun i hi hi2 => by have := HRD.out i hi; have := HZ2.out; omega))
    have HY3 := hid (HYV.out.far hn2 (by have := HZ2.out; omega))
    have HX3 := hid (HXV.out.far hn2 (by omega))
    have HSZ3 : Hid (W2.heap.size + 6 ≤ V2.heap.size) := hid (Nat.le_trans HSZ.out hn2.size)
    clear HJV HSV HYV HXV hn2
    have cc1 := HS3.out.c1
    gi_wp2
    refine ⟨trivial, ?_⟩
    gi_at_call 66
    obtain ⟨M, hmM, hKn⟩ := HS3.out.wk.kn
    refine (CallsIn.inRound _ (callsIn_wide.2 (total_any p lp ln lc tp tn tc rp rn rc th _ ln ln x bw bm (nn + 4 * pre.length) M V2 HS3.out.wk.pa.t HS3.out.wk.box hmM hKn (by have := HPL.out; omega) HOK.out.ots ht5 (by have h := HX3.out.ints; rw [HXL.out] at h; exact h) HXB.out (by omega) (fun a ha h0 e => by cases ha; have h1 := HRD.out bm (.inl (.inr (.inl rfl))); have h2 := HZ2.out; change W2.heap.size + 2 + 1 = bm at e; omega) (fun a ha h0 e => HM.out.t ⟨a, ha, h0, e.symm⟩)))).mono ?_
    rintro e V3 ⟨rfl, M', hm', hk', hn3⟩
    have HJ4 := hid (HJ.out _ _ _ HJ3.out (hn3.mono (fun i _ hi => .inl hi)))
    have HS4 : Hid (SrcT V3 p lp ln lc tp tn tc rp rn rc th bw bm (nn + 4 * (pre ++ [x]).length) b1 b2 op on oc outl) := hid (HS3.out.kept hn3.size (fun i hi hne hlt => hn3.block i hlt hne) HM.out HO.out hbm1 hbm2 ⟨M', hm'.more (by rw [List.length_append, List.length_singleton]; omega), hk'⟩)
    have hbW := HRD.out bm (.inl (.inr (.inl rfl)))
    have HY4 := hid (HY3.out.far hn3 (by omega))
    have HN4 : Hid (Near (fun i => C i ∨ i = bm) V2 V3) := hid (hn3.mono (fun i _ hi => .inr hi))
    clear hmM hKn hm' hk' hn3 HS3 HJ3 HY3 HX3 cc1 hbW
    obtain ⟨r, hr⟩ : ∃ r, paysS p.ts th x = r := ⟨_, rfl⟩
    have HR := hid hr
    rw [hr]
    clear hr
    obtain ⟨f, kp⟩ := r
    unfold resC
    obtain ⟨V4, hV4⟩ : ∃ U, V3.alloc (.cells #[.int .i64 (f 0), .int .i64 (f 1), .int .i64 (f 2), .int .i64 (f 3), .int .i64 (f 4), .int .i64 kp] 118) = U := ⟨_, rfl⟩
    have hb4 : Below V3.heap.size V3 V4 := by rw [← hV4]; exact (Below.refl _ _).alloc (Nat.le_refl _) _
    have HB4 : Hid (BoxIs V3.heap.size #[.int .i64 (f 0), .int .i64 (f 1), .int .i64 (f 2), .int .i64 (f 3), .int .i64 (f 4), .int .i64 kp] V4) := hid (by rw [← hV4]; exact BoxIs.start _ _ _)
    have HJ5 := hid (HJ.out _ _ _ HJ4.out (Near.of_below hb4 (fun i h1 h2 => by omega)))
    have HS5 := hid (HS4.out.near HM.out HO.out (near_below (S := fun _ => False) hb4) (fun _ _ h => h))
    have HY5 := hid (HY4.out.below hb4)
    have HN5 := hid (HN4.out.trans (near_below hb4))
    have HV3 : Hid (V3.heap.size < V4.heap.size) := hid HB4.out.1
    clear hb4 HJ4 HS4 HY4 HN4
    have cc1 := HS5.out.c1
    have e3 := (HS5.out.wk.box.2 3 (.slice rp rn rc) rfl).1
    gi_wp2
    clear hV4 cc1 e3
    gi_loopw [24] (fun i wr => ∃ k : Nat, k ≤ rn ∧ i = .int .i64 k ∧ rightTo f p.reps outl k ∧ Below V4.heap.size V4 wr) (fun i _ => rn - (intOf i).toNat)
    case atStart => exact ⟨0, by omega, rfl, (fun i y hi => by omega), Below.refl _ _⟩
    case round =>
      obtain ⟨j, hj, rfl, hto, hb⟩ := hrel
      have HTO := hid hto; have HB := hid hb
      have HS6 := hid (HS5.out.near HM.out HO.out (near_below (S := fun _ => False) hb) (fun _ _ h => h))
      have HB6 := hid (HB4.out.below hb)
      have HJ6 := hid (HJ.out _ _ _ HJ5.out (near_below hb))
      have HY6 := hid (HY5.out.below hb)
      have HN6 := hid (HN5.out.trans (near_below hb))
      have HRN := hid HS6.out.wk.pa.r.1
      clear hto hb
      by_cases hlt : j < rn
      · obtain ⟨y, hy, b5, o5, rfl, hb5, d0, d1, d2⟩ := HS6.out.wk.pa.r.rep hlt
        have HYR := hid hy
        have HYO := hid (HOK.out.rep y (List.mem_of_getElem? hy))
        have hy5 : 0 ≤ y.tr ∧ y.tr < 5 := by have := HYO.out.1; omega
        obtain ⟨V7, hV7⟩ : ∃ U, wr.alloc (.cells #[.int .i64 y.tr, .int .i64 y.paid.lo, .int .i64 y.paid.hi] 89) = U := ⟨_, rfl⟩
        have hb7 : Below wr.heap.size wr V7 := by rw [← hV7]; exact (Below.refl _ _).alloc (Nat.le_refl _) _
        have HB7 : Hid (BoxIs wr.heap.size #[.int .i64 y.tr, .int .i64 y.paid.lo, .int .i64 y.paid.hi] V7) := hid (by rw [← hV7]; exact BoxIs.start _ _ _)
        have HS7 := hid (HS6.out.near HM.out HO.out (near_below (S := fun _ => False) hb7) (fun _ _ h => h))
        have HB7f := hid (HB6.out.below hb7)
        have HBB7 := hid (HB.out.trans (hb7.mono HB.out.size))
        have c2 := HS7.out.c2
        clear hy hb5 hb7
        gi_wp2
        refine ⟨trivial, ?_⟩
        gi_at_call 100
        refine (CallsIn.inRound _ (callsIn_wide.2 (contains_any op on oc outl (j : Int) V7 HS7.out.ou hon))).mono ?_
        rintro e V8 ⟨rfl, hb8⟩
        have HB8 := hid (HB7.out.below hb8)
        have HB8f := hid (HB7f.out.below hb8)
        have HBB8 := hid (HBB7.out.trans (hb8.mono HBB7.out.size))
        clear c2 d0 d1 d2 hV7 hb8 HS7 HB7f HBB7 HB7
        cases ho : hasB outl (j : Int)
        · have HOT := hid ho; clear ho
          have y0 := (HB8.out.2 0 (.int .i64 y.tr) rfl).1; have y1 := (HB8.out.2 1 (.int .i64 y.paid.lo) rfl).1; have y2 := (HB8.out.2 2 (.int .i64 y.paid.hi) rfl).1
          have x0 := (HB8f.out.2 0 (.int .i64 (f 0)) rfl).1; have x1 := (HB8f.out.2 1 (.int .i64 (f 1)) rfl).1; have x2 := (HB8f.out.2 2 (.int .i64 (f 2)) rfl).1; have x3 := (HB8f.out.2 3 (.int .i64 (f 3)) rfl).1; have x4 := (HB8f.out.2 4 (.int .i64 (f 4)) rfl).1; have x5 := (HB8f.out.2 5 (.int .i64 kp) rfl).1
          gi_wp2
          refine ⟨trivial, ?_⟩
          gi_at_call 94
          refine (CallsIn.inRound _ (callsIn_wide.2 (right_any f kp y V8 hy5.1 hy5.2))).mono ?_
          rintro e V9 ⟨rfl, hb9⟩
          have HBB9 := hid (HBB8.out.trans (hb9.mono HBB8.out.size))
          clear hb9 y0 y1 y2 x0 x1 x2 x3 x4 x5 HBB8 HB8 HB8f
          cases hrt : rightB f y
          · have HNO : Hid (rightO (paysS p.ts th x).1 p.reps outl = false) := hid (by rw [HR.out]; exact rightTo_not HYR.out HOT.out hrt)
            clear hrt
            gi_wp2
            exact ⟨HN5.out.trans (near_below HBB9.out), by show J _ _; rw [flt_snoc, HNO.out, if_neg (by simp), List.append_nil]; exact HJ.out _ _ _ HJ5.out (near_below HBB9.out), HS5.out.near HM.out HO.out (near_below (S := fun _ => False) HBB9.out) (fun _ _ h => h), HY5.out.below HBB9.out⟩
          · have HTN := hid (rightTo_succ HTO.out HYR.out (.inr hrt))
            clear hrt
            gi_wp2
            go_roundw
            case rel => exact ⟨j + 1, by omega, by go_num, HTN.out, HBB9.out⟩
            case measure => simp [intOf]; omega
        · have HTN := hid (rightTo_succ HTO.out HYR.out (.inl ho))
          clear ho
          gi_wp2
          refine ⟨trivial, ?_⟩
          gi_wp2
          go_roundw
          case rel => exact ⟨j + 1, by omega, by go_num, HTN.out, HBB8.out⟩
          case measure => simp [intOf]; omega
      · have hjn : j = rn := by omega
        have HRO : Hid (rightO (paysS p.ts th x).1 p.reps outl = true) := hid (by rw [HR.out]; exact rightTo_all (by have := HRN.out; omega) HTO.out)
        have HFA : Hid (truO p th outl = fltO p th outl pre ++ (f, kp) :: fltO p th outl rest) := hid (by rw [← HR.out]; exact flt_all HALL.out HRO.out)
        have HFS : Hid (fltO p th outl (pre ++ [x]) = fltO p th outl pre ++ [(f, kp)]) := hid (by rw [flt_snoc, if_pos HRO.out, HR.out])
        have HSZ6 : Hid (W.heap.size + 8 ≤ wr.heap.size) := hid (by have h1 := HSZ3.out; have h2 := HN6.out.size; have h3 := HZ2.out; omega)
        obtain ⟨fn9, tmps9, assign9, body9, hyd, hR9⟩ := yield_any (22 - 1 - 1 - 1) (HY.out (fltO p th outl pre) (f, kp) (fltO p th outl rest) wr (.agg (resC f kp)) HFA.out HSZ6.out rfl HJ6.out)
        unfold resC at hyd
        have HR9 := hid hR9
        clear hR9
        have yy := (HY6.out.2 0 (.func (.yield l0) #[] #[]) rfl).1
        have x0 := (HB6.out.2 0 (.int .i64 (f 0)) rfl).1; have x1 := (HB6.out.2 1 (.int .i64 (f 1)) rfl).1; have x2 := (HB6.out.2 2 (.int .i64 (f 2)) rfl).1; have x3 := (HB6.out.2 3 (.int .i64 (f 3)) rfl).1; have x4 := (HB6.out.2 4 (.int .i64 (f 4)) rfl).1; have x5 := (HB6.out.2 5 (.int .i64 kp) rfl).1
        gi_wp2
        refine HR9.out.mono ?_
        rintro e V9 (⟨rfl, hj9, hn9⟩ | ⟨rfl, hx9, hn9⟩)
        · have HJ9 := hid hj9; have HN9 := hid hn9
          clear hj9 hn9 yy hyd x0 x1 x2 x3 x4 x5
          gi_wp2
          exact ⟨HN6.out.trans (HN9.out.mono (fun i _ hi => .inl hi)), by show J _ _; rw [HFS.out]; exact HJ9.out, HS6.out.near HM.out HO.out HN9.out (fun i hi hi2 => (HC.out i hi2).2 hi), HY6.out.far HN9.out (fun hi => by have := (HC.out _ hi).1; omega)⟩
        · have HX9 := hid hx9; have HN9 := hid hn9
          clear hx9 hn9 yy hyd x0 x1 x2 x3 x4 x5
          gi_wp2
          exact ⟨HN6.out.trans (HN9.out.mono (fun i _ hi => .inl hi)), ⟨fltO p th outl pre ++ [(f, kp)], fltO p th outl rest, by rw [HFA.out]; simp, HX9.out⟩, by have h := HS6.out.near HM.out HO.out HN9.out (fun i hi hi2 => (HC.out i hi2).2 hi); exact ⟨h.wk.more (by rw [List.length_append, List.length_singleton]; have := HPL.out; omega), h.c1, h.c2, h.ou⟩⟩
  case done =>
    rintro V ⟨hj, hs, hy⟩ hK hsz
    gi_wp2
    simp only [Exit.noGoto]
    refine ⟨by simp, .inl ⟨_, _, rfl, run_takeDeferred hK, ?_⟩⟩
    have hs9 := hs.near HM.out HO.out (Near.putObj W2.heap.size (.deferred none)) (fun i hi hi2 => by have := HRD.out i hi; omega)
    refine ⟨_, results_none rfl _ _ _, ⟨_, rfl⟩, .inl (HJ.out _ _ _ hj ((Near.putObj W2.heap.size (.deferred none)).mono (fun i _ hi => by right; omega))), hs9.wk.more (by have := HLEN.out; omega)⟩
  case stop =>
    rintro pre rest V hall ⟨⟨q, r, hq, hx⟩, hs⟩ hK hsz
    gi_wp2
    simp only [Exit.noGoto]
    refine ⟨by simp, .inl ⟨_, _, rfl, run_takeDeferred hK, ?_⟩⟩
    have hs9 := hs.near HM.out HO.out (Near.putObj W2.heap.size (.deferred none)) (fun i hi hi2 => by have := HRD.out i hi; omega)
    refine ⟨_, results_none rfl _ _ _, ⟨_, rfl⟩, .inr ⟨q, r, hq, HJX.out _ _ _ hx ((Near.putObj W2.heap.size (.deferred none)).mono (fun i _ hi => by right; omega))⟩, hs9.wk⟩
end Go.Proofs.Ytaioobhblfnlaaa
