/- Fewest of the program. -/
import Derived.Test.YtlicijnaacdceaaProZD
import Derived.Test.YtlicijnaacdceaaProKB
import Derived.Test.YtlicijnaacdceaaRefN
import Derived.Test.YtlicijnaacdceaaRanD
namespace Go.Proofs.Ytlicijnaacdceaa
open Go.RowKit
attribute [local go_sem] Oper.semAt_some

theorem Try.info116 : (Try.prog.info? 116).map (fun i => (i.zero, i.size, i.bytes)) = some (some (.agg #[.int .i64 0, .int .i64 0, .int .i64 0, .int .i64 0, .int .i64 0, .int .i64 0, .int .i64 0, .int .i64 0, .int .i64 0]), 9, 72) := by kernel_rfl
theorem Try.info4 : (Try.prog.info? 4).map (fun i => (i.zero, i.size, i.bytes)) = some (some (.bool false), 1, 1) := by kernel_rfl
theorem Try.und108 : Try.prog.underlying 108 = some (.slice 116) := by kernel_rfl
theorem Try.und109 : Try.prog.underlying 109 = some (.slice 4) := by kernel_rfl

def cells9 (h : List Int) : List Value := (List.range 9).map fun j => .int .i64 (h[j]?.getD 0)
theorem row_block {W W' : World} {base : Nat} {e : TypeId} {size : Nat} {v : Value} {n : Nat} {xs : List Value} (h : W.ownsRow base e size v n xs) (hb : ∀ g, v.ownBlock = some g → W'.heap[g]? = W.heap[g]?) : W'.ownsRow base e size v n xs := by
  refine ⟨h.1, ?_⟩
  rcases h.2 with h0 | ⟨g, cap, cur, hv, hg, hh, r⟩
  · exact .inl h0
  · exact .inr ⟨g, cap, cur, hv, hg, (hb g (by rw [hv]; rfl)).trans hh, r⟩

/-- Two slices that the call owns: truths, and which are above. -/
structure Rows2 (W : World) (base : Nat) (v7 v8 : Value) (L : List (List Int)) (B : List Bool) : Prop where
  t : W.ownsRow base 116 9 v7 L.length (L.flatMap cells9)
  b : W.ownsRow base 4 1 v8 B.length (B.map Value.bool)
  ap : Apart v7 v8
theorem Rows2.block {W W' : World} {base : Nat} {v7 v8 : Value} {L : List (List Int)} {B : List Bool} (h : Rows2 W base v7 v8 L B) (hb : ∀ g, base ≤ g → g < W.heap.size → (v7.ownBlock = some g ∨ v8.ownBlock = some g) → W'.heap[g]? = W.heap[g]?) : Rows2 W' base v7 v8 L B :=
  ⟨row_block h.t fun g hg => hb g (World.ownsRow.lt h.t g hg).1 (World.ownsRow.lt h.t g hg).2 (.inl hg), row_block h.b fun g hg => hb g (World.ownsRow.lt h.b g hg).1 (World.ownsRow.lt h.b g hg).2 (.inr hg), h.ap⟩
theorem Rows2.below {W W' : World} {base : Nat} {v7 v8 : Value} {L : List (List Int)} {B : List Bool} (h : Rows2 W base v7 v8 L B) (hb : Below W.heap.size W W') : Rows2 W' base v7 v8 L B := h.block fun g _ hg _ => hb.block g hg
theorem apart_ne {v u : Value} (h : Apart v u) : u.ownBlock = none ∨ u.ownBlock ≠ v.ownBlock := by
  cases hu : u.ownBlock with
  | none => exact .inl rfl
  | some k => exact .inr fun e => h k e.symm hu
theorem Rows2.lt {W : World} {base : Nat} {v7 v8 : Value} {L : List (List Int)} {B : List Bool} (h : Rows2 W base v7 v8 L B) {g : Nat} (hg : v7.ownBlock = some g ∨ v8.ownBlock = some g) : base ≤ g ∧ g < W.heap.size := by
  rcases hg with hg | hg
  · exact World.ownsRow.lt h.t g hg
  · exact World.ownsRow.lt h.b g hg

theorem step_tru {ops : Array Oper} {o : Oper} {a : Act} {w : World} {K : Act → World → Prop} {Q : Exit → Act → World → Prop} {E : Prop} (hgd : o.guard = none) (s x : Operand)
    (ho : o.op = .call { callee := .builtin .append, args := #[s, x], argTypes := #[108, 108] })
    (base : Nat) (v7 v8 : Value) (L : List (List Int)) (B : List Bool) (h9 : List Int) (bx : Nat) (hR : Rows2 w base v7 v8 L B) (hs : a.eval s = v7) (hx : a.eval x = .slice (some ⟨bx, 0, none⟩) 1 1) (hc : HitsAt w bx h9)
    (hlen : L.length ≤ 1000000) (hbase : base ≤ w.heap.size)
    (h : ∀ g cap w', Rows2 w' base (.slice (some ⟨g, 0, none⟩) (L.length + 1) cap) v8 (L ++ [h9]) B → w.grownBy w' v7.ownBlock → K (a.put o.dst (.slice (some ⟨g, 0, none⟩) (L.length + 1) cap)) w') :
    if Region.wanted o (yielded ops a.tmps) = true then Oper.wp Try.prog o a w K Q else E := by
  obtain ⟨i0, hi, hz0, hz1, hz2⟩ := info_parts Try.info116
  refine step_append_lies w hgd s x 108 ho base 116 i0 _ 9 72 Try.und108 hi hz0 hz1 hz2 rfl (by decide) v7 L.length _ hs hR.t ⟨bx, 0, none⟩ 1 1 (cells9 h9) hx (by simp [cells9]) ?_ ?_ (by decide) (by unfold maxLen; omega) (by omega) hbase w.heap.size rfl ?_
  · intro j u hj
    have hj9 : j < 9 := by have := (List.getElem?_eq_some_iff.1 hj).1; simpa [cells9] using this
    have : (cells9 h9)[j]? = some (.int .i64 (h9[j]?.getD 0)) := by simp [cells9, hj9]
    rw [this] at hj
    cases hj
    have e : (⟨bx, 0, none⟩ : Addr).add j = ⟨bx, j, none⟩ := by unfold Addr.add; split <;> simp_all
    rw [e]; exact hc j hj9
  · intro u hu
    obtain ⟨j, _, rfl⟩ := List.mem_map.1 hu
    simp [Value.oneCell']
  · intro g cap w' h1 h2 h3 h4
    refine h _ _ w' ⟨?_, World.ownsRow.kept hR.b h2 (apart_ne hR.ap), ?_⟩ h2
    · simpa [List.flatMap_append] using h1
    · intro k e1 e2
      simp only [Value.ownBlock, Option.some.injEq] at e1
      subst e1
      rcases h3 with h3 | h3
      · exact hR.ap _ h3 e2
      · have := (World.ownsRow.lt hR.b _ e2).2; omega

theorem step_bool {ops : Array Oper} {o : Oper} {a : Act} {w : World} {K : Act → World → Prop} {Q : Exit → Act → World → Prop} {E : Prop} (hgd : o.guard = none) (s x : Operand)
    (ho : o.op = .call { callee := .builtin .append, args := #[s, x], argTypes := #[109, 109] })
    (base : Nat) (v7 v8 : Value) (L : List (List Int)) (B : List Bool) (y : Bool) (bx : Nat) (hR : Rows2 w base v7 v8 L B) (hs : a.eval s = v8) (hx : a.eval x = .slice (some ⟨bx, 0, none⟩) 1 1) (hc : w.cell? ⟨bx, 0, none⟩ = some (.bool y))
    (hlen : B.length ≤ 1000000) (hbase : base ≤ w.heap.size)
    (h : ∀ g cap w', Rows2 w' base v7 (.slice (some ⟨g, 0, none⟩) (B.length + 1) cap) L (B ++ [y]) → w.grownBy w' v8.ownBlock → K (a.put o.dst (.slice (some ⟨g, 0, none⟩) (B.length + 1) cap)) w') :
    if Region.wanted o (yielded ops a.tmps) = true then Oper.wp Try.prog o a w K Q else E := by
  obtain ⟨i0, hi, hz0, hz1, hz2⟩ := info_parts Try.info4
  refine step_append_lies w hgd s x 109 ho base 4 i0 _ 1 1 Try.und109 hi hz0 hz1 hz2 rfl (by decide) v8 B.length _ hs hR.b ⟨bx, 0, none⟩ 1 1 [.bool y] hx rfl ?_ (by simp [Value.oneCell']) (by decide) (by unfold maxLen; omega) (by omega) hbase w.heap.size rfl ?_
  · intro j u hj
    match j, hj with
    | 0, hj => simp at hj; subst hj; simpa [Addr.add] using hc
  · intro g cap w' h1 h2 h3 h4
    refine h _ _ w' ⟨World.ownsRow.kept hR.t h2 (apart_ne hR.ap.symm), ?_, ?_⟩ h2
    · simpa using h1
    · intro k e1 e2
      simp only [Value.ownBlock, Option.some.injEq] at e2
      subst e2
      rcases h3 with h3 | h3
      · exact hR.ap _ e1 h3
      · have := (World.ownsRow.lt hR.t _ e1).2; omega

theorem flatMap_len_le {α β : Type} (f : α → List β) (M : Nat) : ∀ (xs : List α), (∀ x ∈ xs, (f x).length ≤ M) → (xs.flatMap f).length ≤ xs.length * M
  | [], _ => by simp
  | x :: xs, h => by
    rw [List.flatMap_cons, List.length_append, List.length_cons, Nat.add_mul, Nat.one_mul]
    have h1 := h x (by simp)
    have h2 := flatMap_len_le f M xs (fun y hy => h y (by simp [hy]))
    omega
theorem genP_count (ok : Nat → Int → List Int → Bool) : ∀ (l : List Int) (k : Nat) (pre : List Int), (∀ x ∈ l, 0 ≤ x ∧ x ≤ 9) → ((genP ok l k pre).length : Int) ≤ prodL l
  | [], _, _, _ => by simp [genP, prodL]
  | s :: r, k, pre, h => by
    have hs := h s (by simp)
    have hp := prodL_pos r (fun x hx => h x (by simp [hx]))
    have hle := flatMap_len_le (fun (i : Nat) => if ok k (i : Int) pre = true then genP ok r (k + 1) (pre ++ [(i : Int)]) else []) (prodL r).toNat (List.range (s + 1).toNat) (by
      intro i _
      split
      · have := genP_count ok r (k + 1) (pre ++ [(i : Int)]) (fun x hx => h x (by simp [hx]))
        omega
      · exact Nat.zero_le _)
    rw [List.length_range] at hle
    unfold genP
    rw [prodL]
    have e : (((s + 1).toNat * (prodL r).toNat : Nat) : Int) = (s + 1) * prodL r := by
      rw [Int.natCast_mul, Int.toNat_of_nonneg (by omega), Int.toNat_of_nonneg (by omega)]
    rw [← e]
    exact_mod_cast hle

theorem flat_get : ∀ (T : List (List Int)) (i j : Nat) (h : List Int), T[i]? = some h → j < 9 → (T.flatMap cells9)[i * 9 + j]? = some (.int .i64 (h[j]?.getD 0))
  | [], i, j, h, hi, _ => by simp at hi
  | t :: T, i, j, h, hi, hj => by
    have hl : (cells9 t).length = 9 := by simp [cells9]
    rw [List.flatMap_cons]
    cases i with
    | zero =>
      simp at hi; subst hi
      rw [List.getElem?_append_left (by rw [hl]; omega)]
      simp [cells9, hj]
    | succ i =>
      rw [List.getElem?_append_right (by rw [hl]; omega), hl, show (i + 1) * 9 + j - 9 = i * 9 + j by omega]
      exact flat_get T i j h (by simpa using hi) hj
theorem row_slice {W : World} {base : Nat} {e : TypeId} {size : Nat} {v : Value} {n : Nat} {xs : List Value} (h : W.ownsRow base e size v n xs) : ∃ p c, v = .slice p n c := by
  rcases h.2 with ⟨rfl, h0⟩ | ⟨g, cap, cur, rfl, _⟩
  · exact ⟨none, 0, by rw [h0]⟩
  · exact ⟨_, cap, rfl⟩
theorem tru_of {W : World} {base : Nat} {p : Option Addr} {n c : Nat} {T : List (List Int)} (hn : n = T.length) (h : W.ownsRow base 116 9 (.slice p n c) n (T.flatMap cells9)) : TruAt W p n T := by
  refine ⟨hn, fun i x hi => ?_⟩
  rcases h.2 with ⟨_, h0⟩ | ⟨g, cap, cur, hv, hg, hh, _⟩
  · have := (List.getElem?_eq_some_iff.1 hi).1; omega
  · cases hv
    refine ⟨g, 0, rfl, (Array.getElem?_eq_some_iff.1 hh).1, fun j hj => ?_⟩
    have hc := World.ownsRow.cells h (g := g) rfl (i * 9 + j) _ (flat_get T i j x hi hj)
    have e : (⟨g, 0, none⟩ : Addr).add (i * 9 + j) = ⟨g, 0 + (i * 9 + j), none⟩ := by unfold Addr.add; split <;> simp_all
    rw [e] at hc
    rw [show 0 + i * 9 + j = 0 + (i * 9 + j) by omega]
    exact hc
theorem bools_of {W : World} {base : Nat} {p : Option Addr} {n c : Nat} {B : List Bool} (hn : n = B.length) (h : W.ownsRow base 4 1 (.slice p n c) n (B.map Value.bool)) : BoolsAt W p n B := by
  refine ⟨hn, fun i x hi => ?_⟩
  rcases h.2 with ⟨_, h0⟩ | ⟨g, cap, cur, hv, hg, hh, _⟩
  · have := (List.getElem?_eq_some_iff.1 hi).1; omega
  · cases hv
    refine ⟨g, 0, rfl, (Array.getElem?_eq_some_iff.1 hh).1, ?_⟩
    have hc := World.ownsRow.cells h (g := g) rfl i (.bool x) (by simp [hi])
    have e : (⟨g, 0, none⟩ : Addr).add i = ⟨g, 0 + i, none⟩ := by unfold Addr.add; split <;> simp_all
    rw [e] at hc
    exact hc

theorem updM_ne (M : Value → Option Bool) (k k' : Value) (a : Bool) (h : k' ≠ k) : updM M k a k' = M k' := by
  unfold updM; rw [if_neg h]

/-- What is asked holds where truths that look alike are the same ones. -/
theorem decG_inj (X : List Int) : ∀ (L : List (List Int × Bool)) (M : Value → Option Bool), (∀ p ∈ L, M (hitsV (seenL p.1 X)) = none) → (L.Pairwise fun p q => hitsV (seenL p.1 X) ≠ hitsV (seenL q.1 X)) → decG X L M = true
  | [], _, _, _ => rfl
  | (h, a) :: r, M, h1, h2 => by
    have h0 := h1 (h, a) (by simp)
    rw [List.pairwise_cons] at h2
    unfold decG
    simp only [] at h0
    rw [h0]
    simp only [Option.isSome_none, Bool.false_and, Bool.false_eq_true, if_false]
    refine decG_inj X r _ (fun q hq => ?_) h2.2
    rw [updM_ne _ _ _ _ (fun e => h2.1 q hq e.symm)]
    exact h1 q (by simp [hq])
theorem few_all {cc sm part : Int} {l : List Int} {cs : List Cnt} (hl : l.length ≤ 9) : decG (allFrom l.length 0) ((genP (okP cs [] cc sm) l 0 []).zip ((genP (okP cs [] cc sm) l 0 []).map fun h => decide (part ≤ shareL l h))) (fun _ => none) = true := by
  refine decG_inj _ _ _ (fun _ _ => rfl) ?_
  rw [List.zip_map_right, List.pairwise_map]
  have hz : ∀ (T : List (List Int)), T.zip T = T.map fun x => (x, x) := by
    intro T
    induction T with
    | nil => rfl
    | cons t T ih => simp [ih]
  rw [hz, List.pairwise_map]
  have hlen : ∀ x ∈ genP (okP cs [] cc sm) l 0 [], x.length = l.length := fun x hx => by have := genP_len _ _ _ _ x hx; simpa using this
  refine List.Pairwise.imp_of_mem ?_ (genP_nodup (okP cs [] cc sm) l 0 [])
  intro x y hx hy hne he
  apply hne
  have hx' := hlen x hx
  have hy' := hlen y hy
  refine List.ext_getElem (by omega) fun i h1 h2 => ?_
  have hi9 : i < 9 := by omega
  have key : ∀ z : List Int, (seenL z (allFrom l.length 0))[i]?.getD 0 = z[i]?.getD 0 := fun z => by
    rw [seenL_get _ _ _ hi9, if_pos (mem_allFrom _ _ (by omega))]
  have hcell : (seenL x (allFrom l.length 0))[i]?.getD 0 = (seenL y (allFrom l.length 0))[i]?.getD 0 := by
    simp only [hitsV, Value.agg.injEq, Array.mk.injEq, List.cons.injEq, Value.int.injEq, true_and, and_true] at he
    match i, hi9 with
    | 0, _ => exact he.1
    | 1, _ => exact he.2.1
    | 2, _ => exact he.2.2.1
    | 3, _ => exact he.2.2.2.1
    | 4, _ => exact he.2.2.2.2.1
    | 5, _ => exact he.2.2.2.2.2.1
    | 6, _ => exact he.2.2.2.2.2.2.1
    | 7, _ => exact he.2.2.2.2.2.2.2.1
    | 8, _ => exact he.2.2.2.2.2.2.2.2
  rw [key, key] at hcell
  simpa [h1, h2] using hcell

/-- What Fewest has found of the truths so far. -/
structure FInv (b7 b8 base : Nat) (part : Int) (l : List Int) (pre : List (List Int)) (W : World) : Prop where
  ex : ∃ v7 v8, W.cell? ⟨b7, 0, none⟩ = some v7 ∧ W.cell? ⟨b8, 0, none⟩ = some v8 ∧ W.frozen? ⟨b7, 0, none⟩ = false ∧ W.frozen? ⟨b8, 0, none⟩ = false ∧ Rows2 W base v7 v8 pre (pre.map fun h => decide (part ≤ shareL l h))
theorem FInv.near {b7 b8 base : Nat} {part : Int} {l : List Int} {pre : List (List Int)} {W W' : World} {S : Nat → Prop} (h : FInv b7 b8 base part l pre W) (hn : Near S W W') (h7 : ¬ S b7) (h8 : ¬ S b8) (hS : ∀ k, base ≤ k → k < W.heap.size → ¬ S k) : FInv b7 b8 base part l pre W' := by
  obtain ⟨v7, v8, h1, h2, h3, h4, h5⟩ := h.ex
  exact ⟨v7, v8, near_cell h1 hn h7, near_cell h2 hn h8, near_frozen h1 h3 hn h7, near_frozen h2 h4 hn h8, h5.block fun g hb hg _ => hn.block g hg (hS g hb hg)⟩

theorem FInv.stored {V : World} {b7 base g3 cap3 g12 cap12 : Nat} {part : Int} {l : List Int} {pre : List (List Int)} {x : List Int} {u7 u8 : Value}
    (hrw : Rows2 V base (.slice (some ⟨g3, 0, none⟩) (pre.length + 1) cap3) (.slice (some ⟨g12, 0, none⟩) ((pre.map fun h => decide (part ≤ shareL l h)).length + 1) cap12) (pre ++ [x]) ((pre.map fun h => decide (part ≤ shareL l h)) ++ [decide (part ≤ shareL l x)]))
    (t7 : V.cell? ⟨b7, 0, none⟩ = some u7) (t8 : V.cell? ⟨b7 + 1, 0, none⟩ = some u8) (z7 : V.frozen? ⟨b7, 0, none⟩ = false) (z8 : V.frozen? ⟨b7 + 1, 0, none⟩ = false) (hb : b7 + 1 < base) :
    FInv b7 (b7 + 1) base part l (pre ++ [x]) ((V.setCell ⟨b7, 0, none⟩ (.slice (some ⟨g3, 0, none⟩) (pre.length + 1) cap3)).setCell ⟨b7 + 1, 0, none⟩ (.slice (some ⟨g12, 0, none⟩) (pre.length + 1) cap12)) := by
  rw [List.length_map] at hrw
  refine ⟨.slice (some ⟨g3, 0, none⟩) (pre.length + 1) cap3, .slice (some ⟨g12, 0, none⟩) (pre.length + 1) cap12, ?_, ?_, by rw [World.frozen?_setCell, World.frozen?_setCell]; exact z7, by rw [World.frozen?_setCell, World.frozen?_setCell]; exact z8, ?_⟩
  · rw [World.cell?_setCell_other _ _ _ _ (by simp)]
    exact World.cell?_setCell_same' _ _ _ (by rw [t7]; rfl)
  · exact World.cell?_setCell_same' _ _ _ (by rw [World.cell?_setCell_other _ _ _ _ (by simp), t8]; rfl)
  · rw [List.map_append]
    refine Rows2.block hrw fun g h1 h2 _ => ?_
    rw [Below.heap_setCell _ _ _ _ (by show g ≠ b7 + 1; omega), Below.heap_setCell _ _ _ _ (by show g ≠ b7; omega)]

/-- What Fewest ends with. -/
noncomputable def fewB (cc sm part : Int) (l : List Int) (cs : List Cnt) (X : List Int) : Bool := decG X ((genP (okP cs [] cc sm) l 0 []).zip ((genP (okP cs [] cc sm) l 0 []).map fun h => decide (part ≤ shareL l h))) (fun _ => none)

set_option maxRecDepth 40000 in
set_option maxHeartbeats 16000000 in
theorem Fewest_any (r cc : Int) (p : Option Addr) (n c : Nat) (l : List Int) (sm : Int) (q : Option Addr) (m d : Nat) (cs : List Cnt) (part : Int) (w : World) (hl : IntsAt w p n l) (hcs : CntsAt w q m cs) (hn : n ≤ 100) (hm : m ≤ 100) :
    Calls Try.prog 23 #[.agg #[.int .i64 r, .int .i64 cc, .slice p n c, .int .i64 sm, .slice q m d], .int .i64 part] w (RetList w (fun X => if partE r cc l sm cs part = 0 ∧ genP (okP cs [] cc sm) l 0 [] ≠ [] then First (fewB cc sm part l cs) l.length X else X = []) (if partE r cc l sm cs part = 0 then (if genP (okP cs [] cc sm) l 0 [] = [] then 9 else 0) else partE r cc l sm cs part)) := by
  have HC := hid (fun W (hW : Below w.heap.size w W) => callsIn_wide (n := 8).2 (part_any r cc p n c l sm q m d cs part W (hl.below hW) (hcs.below hW) hn hm))
  have HL := hid hl
  have HCS := hid hcs
  clear hl hcs
  obtain ⟨PP, hPP⟩ : ∃ PP : List Int → Prop, (fun X => if partE r cc l sm cs part = 0 ∧ genP (okP cs [] cc sm) l 0 [] ≠ [] then First (fewB cc sm part l cs) l.length X else X = []) = PP := ⟨_, rfl⟩
  rw [hPP]
  obtain ⟨er, her⟩ : ∃ er, (if partE r cc l sm cs part = 0 then (if genP (okP cs [] cc sm) l 0 [] = [] then 9 else 0) else partE r cc l sm cs part) = er := ⟨_, rfl⟩
  rw [her]
  have HER := hid her
  have HPP := hid hPP
  clear her hPP
  refine (callsIn_wide (n := 9)).1 ?_
  by_cases hf : partE r cc l sm cs part = 0
  · have HPF := hid (part_fault hf)
    have HFF := hid (field_facts (fault0 HPF.out.1).2.1)
    have HSM : Hid (0 ≤ sm ∧ sm ≤ 9) := by
      show _ ∧ _
      have := (fault0 HPF.out.1).2.2.1; simpa [inB] using this
    have HN9 : Hid (n ≤ 9) := by have := HFF.out.2.2.2.2.2.2.1; have := HL.out.1; show n ≤ 9; omega
    have HSB := hid HFF.out.2.2.2.2.2.2.2
    rw [hf] at HC
    have HF := hid hf
    clear hf
    refine callsIn_of_wp_marks Try.func23 rfl trivial ?_ rfl
    simp only [Try.ntmps23, List.size_toArray, List.length_cons, List.length_nil, Nat.reduceAdd, Nat.reduceSub, Array.replicate_succ, Array.replicate_zero, List.push_toArray, List.append_toArray, List.nil_append, List.cons_append]
    gi_wp2
    refine wpIn_scope_straight ?_
    gi_wp2
    refine ⟨trivial, ?_⟩
    gi_at_call 69
    refine (HC.out _ ?_).mono ?_
    · exact ((Below.refl _ _).alloc (Nat.le_refl _) _).alloc (by simp) _
    rintro e W1 ⟨rfl, hb⟩
    have HB1 : Hid (Boxed2 w #[.int .i64 r, .int .i64 cc, .slice p n c, .int .i64 sm, .slice q m d] 36 #[.int .i64 part] 3 W1) := hb.mono (by simp)
    clear hb
    obtain ⟨W3, hW3⟩ : ∃ W3, (W1.alloc (.cells #[.slice none 0 0] 108)).alloc (.cells #[.slice none 0 0] 109) = W3 := ⟨_, rfl⟩
    have B7 : Boxed1 W1 #[.slice none 0 0] 108 W3 := by rw [← hW3]; exact (Boxed1.start _ _ _).alloc _
    have B8 : Boxed1 (W1.alloc (.cells #[.slice none 0 0] 108)) #[.slice none 0 0] 109 W3 := by rw [← hW3]; exact Boxed1.start _ _ _
    have k7 := B7.cell 0 (v := .slice none 0 0) rfl
    have z7 := B7.fz 0 rfl
    have k8 := B8.cell 0 (v := .slice none 0 0) rfl
    have z8 := B8.fz 0 rfl
    simp only [World.size_alloc] at k8 z8
    have HFI0 : Hid (∀ base, FInv W1.heap.size (W1.heap.size + 1) base part l [] W3) := fun base => ⟨_, _, k7, k8, z7, z8, World.ownsRow_nil _ _ _ _, World.ownsRow_nil _ _ _ _, fun g h => by cases h⟩
    have HZ3 : Hid (W3.heap.size = W1.heap.size + 2) := by rw [← hW3]; simp [Hid]
    have HBX : Hid (Boxed2 w #[.int .i64 r, .int .i64 cc, .slice p n c, .int .i64 sm, .slice q m d] 36 #[.int .i64 part] 3 W3) := HB1.out.step (B7.below.mono HB1.out.size)
    have HSZ1 : Hid (w.heap.size + 2 ≤ W1.heap.size) := HB1.out.size
    clear B7 B8 k7 k8 z7 z8 HC
    have hs0 := HBX.out.cell1 0 (v := .int .i64 r) rfl
    have hs1 := HBX.out.cell1 1 (v := .int .i64 cc) rfl
    have hs2 := HBX.out.cell1 2 (v := .slice p n c) rfl
    have hs3 := HBX.out.cell1 3 (v := .int .i64 sm) rfl
    have hs4 := HBX.out.cell1 4 (v := .slice q m d) rfl
    gi_wp2
    refine ⟨trivial, ?_⟩
    gi_at_call 72
    refine ((callsIn_wide (n := 8)).2 (work_any _ _ _ _ _ _ _ _ _ _ _ _ _)).mono ?_
    rintro e W4 ⟨rfl, hwork, hmap, hz4, hb4⟩
    have HSV : Hid (SurvAt (W4.alloc (.cells #[.pointer (some ⟨W3.heap.size + 2, 0, none⟩)] 112)) (W3.heap.size + 2) (W3.heap.size + 3) (W3.heap.size + 1) r cc p n c l sm q m d cs none 0 0 [] 0) :=
      surv_made (HL.out.below HBX.out.below) (HCS.out.below HBX.out.below) (IntsAt.nil _) hwork hmap hz4 hb4
    have HZ4 := hid hz4
    have HB4 := hid hb4
    clear hwork hmap hb4 hs0 hs1 hs2 hs3 hs4
    gi_wp2
    refine ⟨trivial, ?_⟩
    gi_at_call 73
    refine ((callsIn_wide (n := 8)).2 (truthsF_any _ _)).mono ?_
    rintro e w5 ⟨rfl, rfl⟩
    gi_wp2
    obtain ⟨WL, hWL⟩ : ∃ WL, W4.alloc (.cells #[.pointer (some ⟨W3.heap.size + 2, 0, none⟩)] 112) = WL := ⟨_, rfl⟩
    rw [hWL]
    rw [hWL] at HSV
    have hbL : Below W3.heap.size W3 WL := by rw [← hWL]; exact HB4.out.alloc (by have := HZ4.out; omega) _
    have hszL : WL.heap.size = W1.heap.size + 6 := by rw [← hWL, World.size_alloc, HZ4.out, HZ3.out]
    have hz3 := HZ3.out
    have hs1 := HSZ1.out
    refine wpIn_rangeFunc_near2 rfl (by omega) (gf := 95) (lb := #[.pointer (some ⟨W3.heap.size + 3, 0, none⟩)]) rfl trivial (enters_of Try.func95 (by kernel_rfl) rfl)
      (truths_gives2 _ _ _ _ _ _ _ _ _ _ _ _ _ _ _ _ _ _ HL.out.1 HN9.out (by omega) (by omega) HSB.out HFF.out.2.2.1 HFF.out.2.2.2.1 HSM.out.1 HSM.out.2 _ _ HSV.out) (Below.refl _ _)
      (fun k hk => by rcases rd_out HL.out HCS.out (IntsAt.nil w) hk with h | h | h | h <;> omega) (fun k hk => by omega)
      (fun k => k = W1.heap.size ∨ k = W1.heap.size + 1 ∨ WL.heap.size + 5 ≤ k) (fun k hk => ⟨by omega, fun hr => by rcases rd_out HL.out HCS.out (IntsAt.nil w) hr with h | h | h | h <;> omega⟩)
      (fun pre W => Near (fun k => k = W3.heap.size + 1 ∨ k = W1.heap.size ∨ k = W1.heap.size + 1) WL W ∧ FInv W1.heap.size (W1.heap.size + 1) (WL.heap.size + 5) part l pre W)
      (fun pre W => False)
      (fun pre W1' W2' h hn => ⟨h.1.trans' hn (fun i hi hT => by omega), h.2.near hn (by omega) (by omega) (fun k h1 h2 => by omega)⟩)
      (fun pre W1' W2' h hn => h) ⟨Near.refl _ _, (HFI0.out _).near (S := fun k => False) (Near.of_below hbL (fun k h1 h2 => by omega)) (fun h => h) (fun h => h) (fun _ _ _ h => h)⟩ ?round ?done ?stop
    case round =>
      rintro pre x rest W hall hsz ⟨hnW, hFI⟩
      obtain ⟨v7, v8, c7, c8, f7, f8, hrw0⟩ := hFI.ex
      have hbL0 := HBX.out.below.trans (hbL.mono (by omega))
      have hboxL : ∀ k v, #[.int .i64 r, .int .i64 cc, .slice p n c, .int .i64 sm, .slice q m d][k]? = some v → WL.cell? ⟨w.heap.size, k, none⟩ = some v := fun k v hk => (hbL.cell (p := ⟨w.heap.size, k, none⟩) (by show w.heap.size < _; omega)).trans (HBX.out.cell1 k hk)
      have hpartL : WL.cell? ⟨w.heap.size + 1, 0, none⟩ = some (.int .i64 part) := (hbL.cell (p := ⟨w.heap.size + 1, 0, none⟩) (by show w.heap.size + 1 < _; omega)).trans (HBX.out.cell2 0 rfl)
      have HBL0 := hid hbL0
      have HBOXL := hid hboxL
      have HPARTL := hid hpartL
      have HNW := hid hnW
      have HC7 := hid c7
      have HC8 := hid c8
      have HF7 := hid f7
      have HF8 := hid f8
      have HRW := hid hrw0
      have HSZ := hid hsz
      have HALL := hid hall
      have HSZL := hid hszL
      have HXB := hid (listed_bd (genP_listed (by rw [hall]; simp : x ∈ genP (okP cs [] cc sm) l 0 [])) HSB.out)
      clear hbL hszL hz3 hs1 hnW hFI c7 c8 f7 f8 hrw0 hsz hall hbL0 hboxL hpartL hWL hW3
      unfold hitsV
      gi_wp2
      refine ⟨(Near.refl _ _).alloc _, fun W2 hn2 => ?_⟩
      have hn3 : Near (fun k => k = WL.heap.size + 1) W W2 := ((Near.refl _ _).alloc _).trans hn2
      have hszW2 : WL.heap.size + 5 ≤ W2.heap.size := Nat.le_trans HSZ.out hn3.size
      have HX : Hid (HitsAt W2 W.heap.size x) := (hitsAt_box W x 116).near hn2 (by have := HSZ.out; omega)
      have HN2 : Hid (Near (fun k => k = W3.heap.size + 1 ∨ k = W1.heap.size ∨ k = W1.heap.size + 1) WL W2) := HNW.out.trans' hn3 (fun i hi hT => by omega)
      have HC7 : Hid (W2.cell? ⟨W1.heap.size, 0, none⟩ = some v7) := near_cell HC7.out hn3 (by show W1.heap.size ≠ _; have := HSZL.out; omega)
      have HC8 : Hid (W2.cell? ⟨W1.heap.size + 1, 0, none⟩ = some v8) := near_cell HC8.out hn3 (by show W1.heap.size + 1 ≠ _; have := HSZL.out; omega)
      have HF7 : Hid (W2.frozen? ⟨W1.heap.size, 0, none⟩ = false) := (hn3.frozen (p := ⟨W1.heap.size, 0, none⟩) (by show W1.heap.size < _; have := HSZL.out; have := HSZ.out; omega) (by show W1.heap.size ≠ _; have := HSZL.out; omega)).trans HF7.out
      have HF8 : Hid (W2.frozen? ⟨W1.heap.size + 1, 0, none⟩ = false) := (hn3.frozen (p := ⟨W1.heap.size + 1, 0, none⟩) (by show W1.heap.size + 1 < _; have := HSZL.out; have := HSZ.out; omega) (by show W1.heap.size + 1 ≠ _; have := HSZL.out; omega)).trans HF8.out
      have HOWN : Hid (∀ g, v7.ownBlock = some g ∨ v8.ownBlock = some g → WL.heap.size + 5 ≤ g ∧ g < W.heap.size) := fun g hg => HRW.out.lt hg
      have HRW : Hid (Rows2 W2 (WL.heap.size + 5) v7 v8 pre (pre.map fun h => decide (part ≤ shareL l h))) := HRW.out.block (fun g h1 h2 _ => hn3.block g h2 (by omega))
      obtain ⟨base, hbase⟩ : ∃ base, WL.heap.size + 5 = base := ⟨_, rfl⟩
      rw [hbase] at HRW HOWN hszW2
      have HBASE : Hid (base = W1.heap.size + 11) := by show _ = _; have := HSZL.out; omega
      have HBASE2 : base ≤ W2.heap.size := hszW2
      have HSZW : Hid (w.heap.size + 2 ≤ W1.heap.size) := HSZ1.out
      have HPL : Hid (pre.length ≤ 1000000) := by
        show _ ≤ _
        have h1 := genP_count (okP cs [] cc sm) l 0 [] HSB.out
        have h2 := prodL_many HSB.out (fault0 HPF.out.1).2.2.2.2
        rw [HALL.out] at h1
        simp at h1
        omega
      have HBW : Hid (Below w.heap.size w W2) := HBL0.out.trans (HN2.out.below HBL0.out.size (fun k hk e => by have := HSZ1.out; have := HZ3.out; omega))
      have HSH := hid (fun V (hV : Below w.heap.size w V) => fieldShare_any r cc p n c l x V (HL.out.below hV) (by rw [HXB.out.1]; exact HL.out.1) HN9.out HSB.out HXB.out.2)
      unfold hitsV at HSH
      have HV : Hid (∀ V, Near (fun k => k = W1.heap.size ∨ k = W1.heap.size + 1 ∨ v7.ownBlock = some k ∨ v8.ownBlock = some k) W2 V → V.cell? ⟨w.heap.size, 0, none⟩ = some (.int .i64 r) ∧ V.cell? ⟨w.heap.size, 1, none⟩ = some (.int .i64 cc) ∧ V.cell? ⟨w.heap.size, 2, none⟩ = some (.slice p n c) ∧ V.cell? ⟨w.heap.size + 1, 0, none⟩ = some (.int .i64 part) ∧
          V.cell? ⟨W.heap.size, 0, none⟩ = some (.int .i64 (x[0]?.getD 0)) ∧ V.cell? ⟨W.heap.size, 1, none⟩ = some (.int .i64 (x[1]?.getD 0)) ∧ V.cell? ⟨W.heap.size, 2, none⟩ = some (.int .i64 (x[2]?.getD 0)) ∧ V.cell? ⟨W.heap.size, 3, none⟩ = some (.int .i64 (x[3]?.getD 0)) ∧ V.cell? ⟨W.heap.size, 4, none⟩ = some (.int .i64 (x[4]?.getD 0)) ∧
          V.cell? ⟨W.heap.size, 5, none⟩ = some (.int .i64 (x[5]?.getD 0)) ∧ V.cell? ⟨W.heap.size, 6, none⟩ = some (.int .i64 (x[6]?.getD 0)) ∧ V.cell? ⟨W.heap.size, 7, none⟩ = some (.int .i64 (x[7]?.getD 0)) ∧ V.cell? ⟨W.heap.size, 8, none⟩ = some (.int .i64 (x[8]?.getD 0))) := by
        intro V hV
        have hz3 := HZ3.out
        have hs1 := HSZ1.out
        have hzl := HSZL.out
        have hzw := HSZ.out
        have old : ∀ k v, #[.int .i64 r, .int .i64 cc, .slice p n c, .int .i64 sm, .slice q m d][k]? = some v → V.cell? ⟨w.heap.size, k, none⟩ = some v := fun k v hk => near_cell (near_cell (HBOXL.out k v hk) HN2.out (by show ¬ (w.heap.size = _ ∨ w.heap.size = _ ∨ w.heap.size = _); omega)) hV (by
          show ¬ (w.heap.size = _ ∨ w.heap.size = _ ∨ _ ∨ _)
          rintro (h | h | h)
          · omega
          · omega
          · have h3 : base ≤ w.heap.size := (HOWN.out _ h).1; omega)
        have hx : ∀ j, j < 9 → V.cell? ⟨W.heap.size, j, none⟩ = some (.int .i64 (x[j]?.getD 0)) := fun j hj => near_cell (HX.out j hj) hV (by
          show ¬ (W.heap.size = _ ∨ W.heap.size = _ ∨ _ ∨ _)
          rintro (h | h | h)
          · omega
          · omega
          · have h3 : W.heap.size < W.heap.size := (HOWN.out _ h).2; omega)
        refine ⟨old 0 _ rfl, old 1 _ rfl, old 2 _ rfl, ?_, hx 0 (by omega), hx 1 (by omega), hx 2 (by omega), hx 3 (by omega), hx 4 (by omega), hx 5 (by omega), hx 6 (by omega), hx 7 (by omega), hx 8 (by omega)⟩
        refine near_cell (near_cell HPARTL.out HN2.out (by show ¬ (w.heap.size + 1 = _ ∨ w.heap.size + 1 = _ ∨ w.heap.size + 1 = _); omega)) hV ?_
        show ¬ (w.heap.size + 1 = _ ∨ w.heap.size + 1 = _ ∨ _ ∨ _)
        rintro (h | h | h)
        · omega
        · omega
        · have h3 : base ≤ w.heap.size + 1 := (HOWN.out _ h).1; omega
      have HBAS := hid hbase
      have HWW := hid hn3
      clear hn2 hn3 hszW2 hbase
      gi_wp2
      refine wpIn_region_held_round (S := fun V => Near (fun k => k = W1.heap.size ∨ k = W1.heap.size + 1 ∨ v7.ownBlock = some k ∨ v8.ownBlock = some k) W2 V) (by kernel_rfl) (by kernel_rfl) (fun ⟨_, _, h⟩ => h) (Near.refl _ _).drew (fun hS => ?_)
      have hT : Near (fun k => v7.ownBlock = some k ∨ v8.ownBlock = some k) W2 W2.drew := (Near.refl _ _).drew
      simp only [List.size_toArray, List.length_cons, List.length_nil, Nat.reduceAdd, Array.replicate_succ, Array.replicate_zero, List.push_toArray, List.nil_append, List.cons_append]
      refine wpAnyH_take (i := 1) (v := ?_) rfl (by kernel_rfl) (by kernel_rfl) (by kernel_rfl) (fun _ _ _ h => h) (Or.inl ⟨by rfl, fun V hV => ?_⟩) (by assumption) ?_
      rotate_left
      · have ⟨v0, v1, v2, v3, x0, x1, x2, x3, x4, x5, x6, x7, x8⟩ := HV.out V hV; go_simp
        try with_reducible rfl
      try simp only [Act.put, List.getElem_toArray, List.getElem_cons_zero, List.getElem_cons_succ, List.setIfInBounds_toArray, List.set_cons_zero, List.set_cons_succ]
      refine wpAnyH_take (i := 5) (v := ?_) rfl (by kernel_rfl) (by kernel_rfl) (by kernel_rfl) (fun _ _ _ h => h) (Or.inl ⟨by rfl, fun V hV => ?_⟩) (by assumption) ?_
      rotate_left
      · go_simp
        try with_reducible rfl
      try simp only [Act.put, List.getElem_toArray, List.getElem_cons_zero, List.getElem_cons_succ, List.setIfInBounds_toArray, List.set_cons_zero, List.set_cons_succ]
      refine wpAnyH_take (i := 6) (v := ?_) rfl (by kernel_rfl) (by kernel_rfl) (by kernel_rfl) (fun _ _ _ h => h) (Or.inl ⟨by rfl, fun V hV => ?_⟩) (by assumption) ?_
      rotate_left
      · have ⟨v0, v1, v2, v3, x0, x1, x2, x3, x4, x5, x6, x7, x8⟩ := HV.out V hV; go_simp
        try with_reducible rfl
      try simp only [Act.put, List.getElem_toArray, List.getElem_cons_zero, List.getElem_cons_succ, List.setIfInBounds_toArray, List.set_cons_zero, List.set_cons_succ]
      refine wpAnyH_take (i := 7) (v := ?_) rfl (by kernel_rfl) (by kernel_rfl) (by kernel_rfl) (fun _ _ _ h => h) (Or.inl ⟨by rfl, fun V hV => ?_⟩) (by assumption) ?_
      rotate_left
      · have ⟨v0, v1, v2, v3, x0, x1, x2, x3, x4, x5, x6, x7, x8⟩ := HV.out V hV; go_simp
        try with_reducible rfl
      try simp only [Act.put, List.getElem_toArray, List.getElem_cons_zero, List.getElem_cons_succ, List.setIfInBounds_toArray, List.set_cons_zero, List.set_cons_succ]
      refine wpAnyH_take (i := 9) (v := ?_) rfl (by kernel_rfl) (by kernel_rfl) (by kernel_rfl) (fun _ _ _ h => h) (Or.inl ⟨by rfl, fun V hV => ?_⟩) (by assumption) ?_
      rotate_left
      · have ⟨v0, v1, v2, v3, x0, x1, x2, x3, x4, x5, x6, x7, x8⟩ := HV.out V hV; go_simp
        try with_reducible rfl
      try simp only [Act.put, List.getElem_toArray, List.getElem_cons_zero, List.getElem_cons_succ, List.setIfInBounds_toArray, List.set_cons_zero, List.set_cons_succ]
      refine wpAnyH_ready (rs := [0, 2, 4]) (by kernel_rfl) (by simp) ?_
      refine AllReadyH.cons (o := _) rfl (fun K hK => ?_) ?_
      · skip
        have e7 : W2.drew.cell? ⟨W1.heap.size, 0, none⟩ = some v7 := near_cell HC7.out hT (fun hk => by have h3 : base ≤ W1.heap.size := (HRW.out.lt hk).1; have := HBASE.out; omega)
        go_simp
        refine hK.out _ _ (hT.mono (fun k _ hk => .inr (.inr hk))) (fun hS => ?_)
        clear hK K
        try simp only [List.setIfInBounds_toArray, List.set_cons_zero]
        refine wpAnyH_ready (rs := [2, 4]) (by kernel_rfl) (by simp) ?_
        refine AllReadyH.cons (o := _) rfl (fun K hK => ?_) ?_
        · skip
          obtain ⟨V2, hV2⟩ : ∃ V2, (W2.alloc (.cells #[.int .i64 (x[0]?.getD 0), .int .i64 (x[1]?.getD 0), .int .i64 (x[2]?.getD 0), .int .i64 (x[3]?.getD 0), .int .i64 (x[4]?.getD 0), .int .i64 (x[5]?.getD 0), .int .i64 (x[6]?.getD 0), .int .i64 (x[7]?.getD 0), .int .i64 (x[8]?.getD 0)] 116)).drew = V2 := ⟨_, rfl⟩
          have hx2 : HitsAt V2 W2.heap.size x := by rw [← hV2]; exact hitsAt_box W2 x 116
          have hb2 : Below W2.heap.size W2 V2 := by rw [← hV2]; exact ((Below.refl _ _).alloc (Nat.le_refl _) _).drew
          have hT : Near (fun k => v7.ownBlock = some k ∨ v8.ownBlock = some k) W2 V2 := Near.of_below hb2 (fun k h1 h2 => by omega)
          have hrw := HRW.out.below hb2
          go_simp
          refine hK.out _ _ (hT.mono (fun k _ hk => .inr (.inr hk))) (fun hS => ?_)
          clear hK K
          try simp only [List.setIfInBounds_toArray, List.set_cons_zero, List.set_cons_succ]
          refine wpAnyH_ready (rs := [3, 4]) (by kernel_rfl) (by simp) ?_
          refine AllReadyH.cons (o := _) rfl (fun K hK => ?_) ?_
          · skip
            refine step_tru (by rfl) (.tmp 23) (.tmp 25) (by rfl) base v7 v8 pre (pre.map fun h => decide (part ≤ shareL l h)) x W2.heap.size hrw rfl rfl hx2 HPL.out (Nat.le_trans HBASE2 hT.size) ?_
            intro g3 cap3 V3 hrw hg3
            have hT := hT.grown hg3 (fun k hk _ => .inl hk)
            refine hK.out _ _ (hT.mono (fun k _ hk => .inr (.inr hk))) (fun hS => ?_)
            clear hK K
            try simp only [Act.put, List.getElem_toArray, List.getElem_cons_zero, List.getElem_cons_succ, List.setIfInBounds_toArray, List.set_cons_zero, List.set_cons_succ]
            refine wpAnyH_ready (rs := [4, 8]) (by kernel_rfl) (by simp) ?_
            refine AllReadyH.cons (o := _) rfl (fun K hK => ?_) ?_
            · skip
              have e8 : V3.cell? ⟨W1.heap.size + 1, 0, none⟩ = some v8 := near_cell HC8.out hT (fun hk => by have h3 : base ≤ W1.heap.size + 1 := (HRW.out.lt hk).1; have := HBASE.out; omega)
              go_simp
              refine hK.out _ _ (hT.mono (fun k _ hk => .inr (.inr hk))) (fun hS => ?_)
              clear hK K
              try simp only [List.setIfInBounds_toArray, List.set_cons_zero, List.set_cons_succ]
              refine wpAnyH_ready (rs := [8]) (by kernel_rfl) (by simp) ?_
              refine AllReadyH.cons (o := _) rfl (fun K hK => ?_) AllReadyH.nil
              go_simp
              refine (HSH.out V3 (HBW.out.trans (hT.below HBW.out.size (fun k hk hk2 => by have := (HRW.out.lt hk2).1; have := HBASE.out; have := HSZW.out; omega)))).mono ?_
              rintro e V8 ⟨rfl, hb8⟩
              have hrw := hrw.below hb8
              have hT := hT.trans (Near.of_below hb8 (fun k h1 h2 => by omega))
              refine hK.out _ _ (hT.mono (fun k _ hk => .inr (.inr hk))) (fun hS => ?_)
              clear hK K
              try simp only [List.setIfInBounds_toArray, List.set_cons_zero, List.set_cons_succ]
              refine wpAnyH_take (i := 10) (v := ?_) rfl (by kernel_rfl) (by kernel_rfl) (by kernel_rfl) (fun _ _ _ h => h) (Or.inl ⟨by rfl, fun V hV => ?_⟩) (by assumption) ?_
              rotate_left
              · go_simp
                try with_reducible rfl
              try simp only [Act.put, List.getElem_toArray, List.getElem_cons_zero, List.getElem_cons_succ, List.setIfInBounds_toArray, List.set_cons_zero, List.set_cons_succ]
              refine wpAnyH_ready (rs := [11]) (by kernel_rfl) (by simp) ?_
              refine AllReadyH.cons (o := _) rfl (fun K hK => ?_) AllReadyH.nil
              obtain ⟨V11, hV11⟩ : ∃ V11, V8.alloc (.cells #[.bool (decide (part ≤ shareL l x))] 4) = V11 := ⟨_, rfl⟩
              have hx11 : V11.cell? ⟨V8.heap.size, 0, none⟩ = some (.bool (decide (part ≤ shareL l x))) := by rw [← hV11]; exact cell_box V8 _ 4 0 _ rfl
              have hb11 : Below V8.heap.size V8 V11 := by rw [← hV11]; exact (Below.refl _ _).alloc (Nat.le_refl _) _
              have hrw := hrw.below hb11
              have hT := hT.trans (Near.of_below hb11 (fun k h1 h2 => by omega))
              go_simp
              refine hK.out _ _ (hT.mono (fun k _ hk => .inr (.inr hk))) (fun hS => ?_)
              clear hK K
              try simp only [List.setIfInBounds_toArray, List.set_cons_zero, List.set_cons_succ]
              refine wpAnyH_ready (rs := [12]) (by kernel_rfl) (by simp) ?_
              refine AllReadyH.cons (o := _) rfl (fun K hK => ?_) AllReadyH.nil
              refine step_bool (by rfl) (.tmp 27) (.tmp 34) (by rfl) base (.slice (some ⟨g3, 0, none⟩) (pre.length + 1) cap3) v8 (pre ++ [x]) (pre.map fun h => decide (part ≤ shareL l h)) (decide (part ≤ shareL l x)) V8.heap.size hrw rfl rfl hx11 (by rw [List.length_map]; exact HPL.out) (Nat.le_trans HBASE2 hT.size) ?_
              intro g12 cap12 V12 hrw hg12
              have hT := hT.grown hg12 (fun k hk _ => .inr hk)
              have t7 := near_cell HC7.out hT (fun hk => by have h3 : base ≤ W1.heap.size := (HRW.out.lt hk).1; have := HBASE.out; omega)
              have z7 := near_frozen HC7.out HF7.out hT (fun hk => by have h3 : base ≤ W1.heap.size := (HRW.out.lt hk).1; have := HBASE.out; omega)
              have t8 := near_cell HC8.out hT (fun hk => by have h3 : base ≤ W1.heap.size + 1 := (HRW.out.lt hk).1; have := HBASE.out; omega)
              have z8 := near_frozen HC8.out HF8.out hT (fun hk => by have h3 : base ≤ W1.heap.size + 1 := (HRW.out.lt hk).1; have := HBASE.out; omega)
              refine hK.out _ _ (hT.mono (fun k _ hk => .inr (.inr hk))) (fun hS => ?_)
              clear hK K
              try simp only [Act.put, List.getElem_toArray, List.getElem_cons_zero, List.getElem_cons_succ, List.setIfInBounds_toArray, List.set_cons_zero, List.set_cons_succ]
              refine wpAnyH_ready (rs := [13]) (by kernel_rfl) (by simp) ?_
              refine AllReadyH.cons (o := _) rfl (fun K hK => ?_) AllReadyH.nil
              go_simp
              refine hK.out _ _ ((hT.mono (T := fun k => k = W1.heap.size ∨ k = W1.heap.size + 1 ∨ v7.ownBlock = some k ∨ v8.ownBlock = some k) (fun k _ hk => .inr (.inr hk))).setCell (p := ⟨W1.heap.size, 0, none⟩) (fun _ => .inl rfl) _) (fun hS => ?_)
              clear hK K
              try simp only [List.setIfInBounds_toArray, List.set_cons_zero, List.set_cons_succ]
              refine wpAnyH_ready (rs := [14]) (by kernel_rfl) (by simp) ?_
              refine AllReadyH.cons (o := _) rfl (fun K hK => ?_) AllReadyH.nil
              have t8b : (V12.setCell ⟨W1.heap.size, 0, none⟩ (.slice (some ⟨g3, 0, none⟩) (pre.length + 1) cap3)).cell? ⟨W1.heap.size + 1, 0, none⟩ = some v8 := (World.cell?_setCell_other _ _ _ _ (by simp)).trans t8
              go_simp
              refine hK.out _ _ (hS.setCell (p := ⟨W1.heap.size + 1, 0, none⟩) (fun _ => .inr (.inl rfl)) _) (fun hS => ?_)
              clear hK K
              try simp only [List.setIfInBounds_toArray, List.set_cons_zero, List.set_cons_succ]
              refine wpAnyH_done (by kernel_rfl) ?_ _
              refine ⟨hS.mono (fun k _ h => ?_), HN2.out.trans' hS (fun i hi h => ?_), ?_⟩
              · rcases h with h | h | h
                · exact .inl h
                · exact .inr (.inl h)
                · have h3 : base ≤ k := (HOWN.out _ h).1
                  exact .inr (.inr (by have := HBAS.out; omega))
              · rcases h with h | h | h
                · exact .inr (.inl h)
                · exact .inr (.inr h)
                · have h3 : base ≤ i := (HOWN.out _ h).1
                  have := HBASE.out
                  have := HSZL.out
                  omega
              · have hb := HBASE.out
                rw [HBAS.out]
                exact FInv.stored hrw t7 t8 z7 z8 (by omega)
            refine AllReadyH.cons (o := _) rfl (fun K hK => ?_) AllReadyH.nil
            go_simp
            refine (HSH.out V3 (HBW.out.trans (hT.below HBW.out.size (fun k hk hk2 => by have := (HRW.out.lt hk2).1; have := HBASE.out; have := HSZW.out; omega)))).mono ?_
            rintro e V8 ⟨rfl, hb8⟩
            have hrw := hrw.below hb8
            have hT := hT.trans (Near.of_below hb8 (fun k h1 h2 => by omega))
            refine hK.out _ _ (hT.mono (fun k _ hk => .inr (.inr hk))) (fun hS => ?_)
            clear hK K
            try simp only [List.setIfInBounds_toArray, List.set_cons_zero, List.set_cons_succ]
            refine wpAnyH_take (i := 10) (v := ?_) rfl (by kernel_rfl) (by kernel_rfl) (by kernel_rfl) (fun _ _ _ h => h) (Or.inl ⟨by rfl, fun V hV => ?_⟩) (by assumption) ?_
            rotate_left
            · go_simp
              try with_reducible rfl
            try simp only [Act.put, List.getElem_toArray, List.getElem_cons_zero, List.getElem_cons_succ, List.setIfInBounds_toArray, List.set_cons_zero, List.set_cons_succ]
            refine wpAnyH_ready (rs := [4, 11]) (by kernel_rfl) (by simp) ?_
            refine AllReadyH.cons (o := _) rfl (fun K hK => ?_) ?_
            · skip
              have e8 : V8.cell? ⟨W1.heap.size + 1, 0, none⟩ = some v8 := near_cell HC8.out hT (fun hk => by have h3 : base ≤ W1.heap.size + 1 := (HRW.out.lt hk).1; have := HBASE.out; omega)
              go_simp
              refine hK.out _ _ (hT.mono (fun k _ hk => .inr (.inr hk))) (fun hS => ?_)
              clear hK K
              try simp only [List.setIfInBounds_toArray, List.set_cons_zero, List.set_cons_succ]
              refine wpAnyH_ready (rs := [11]) (by kernel_rfl) (by simp) ?_
              refine AllReadyH.cons (o := _) rfl (fun K hK => ?_) AllReadyH.nil
              obtain ⟨V11, hV11⟩ : ∃ V11, V8.alloc (.cells #[.bool (decide (part ≤ shareL l x))] 4) = V11 := ⟨_, rfl⟩
              have hx11 : V11.cell? ⟨V8.heap.size, 0, none⟩ = some (.bool (decide (part ≤ shareL l x))) := by rw [← hV11]; exact cell_box V8 _ 4 0 _ rfl
              have hb11 : Below V8.heap.size V8 V11 := by rw [← hV11]; exact (Below.refl _ _).alloc (Nat.le_refl _) _
              have hrw := hrw.below hb11
              have hT := hT.trans (Near.of_below hb11 (fun k h1 h2 => by omega))
              go_simp
              refine hK.out _ _ (hT.mono (fun k _ hk => .inr (.inr hk))) (fun hS => ?_)
              clear hK K
              try simp only [List.setIfInBounds_toArray, List.set_cons_zero, List.set_cons_succ]
              refine wpAnyH_ready (rs := [12]) (by kernel_rfl) (by simp) ?_
              refine AllReadyH.cons (o := _) rfl (fun K hK => ?_) AllReadyH.nil
              refine step_bool (by rfl) (.tmp 27) (.tmp 34) (by rfl) base (.slice (some ⟨g3, 0, none⟩) (pre.length + 1) cap3) v8 (pre ++ [x]) (pre.map fun h => decide (part ≤ shareL l h)) (decide (part ≤ shareL l x)) V8.heap.size hrw rfl rfl hx11 (by rw [List.length_map]; exact HPL.out) (Nat.le_trans HBASE2 hT.size) ?_
              intro g12 cap12 V12 hrw hg12
              have hT := hT.grown hg12 (fun k hk _ => .inr hk)
              have t7 := near_cell HC7.out hT (fun hk => by have h3 : base ≤ W1.heap.size := (HRW.out.lt hk).1; have := HBASE.out; omega)
              have z7 := near_frozen HC7.out HF7.out hT (fun hk => by have h3 : base ≤ W1.heap.size := (HRW.out.lt hk).1; have := HBASE.out; omega)
              have t8 := near_cell HC8.out hT (fun hk => by have h3 : base ≤ W1.heap.size + 1 := (HRW.out.lt hk).1; have := HBASE.out; omega)
              have z8 := near_frozen HC8.out HF8.out hT (fun hk => by have h3 : base ≤ W1.heap.size + 1 := (HRW.out.lt hk).1; have := HBASE.out; omega)
              refine hK.out _ _ (hT.mono (fun k _ hk => .inr (.inr hk))) (fun hS => ?_)
              clear hK K
              try simp only [Act.put, List.getElem_toArray, List.getElem_cons_zero, List.getElem_cons_succ, List.setIfInBounds_toArray, List.set_cons_zero, List.set_cons_succ]
              refine wpAnyH_ready (rs := [13]) (by kernel_rfl) (by simp) ?_
              refine AllReadyH.cons (o := _) rfl (fun K hK => ?_) AllReadyH.nil
              go_simp
              refine hK.out _ _ ((hT.mono (T := fun k => k = W1.heap.size ∨ k = W1.heap.size + 1 ∨ v7.ownBlock = some k ∨ v8.ownBlock = some k) (fun k _ hk => .inr (.inr hk))).setCell (p := ⟨W1.heap.size, 0, none⟩) (fun _ => .inl rfl) _) (fun hS => ?_)
              clear hK K
              try simp only [List.setIfInBounds_toArray, List.set_cons_zero, List.set_cons_succ]
              refine wpAnyH_ready (rs := [14]) (by kernel_rfl) (by simp) ?_
              refine AllReadyH.cons (o := _) rfl (fun K hK => ?_) AllReadyH.nil
              have t8b : (V12.setCell ⟨W1.heap.size, 0, none⟩ (.slice (some ⟨g3, 0, none⟩) (pre.length + 1) cap3)).cell? ⟨W1.heap.size + 1, 0, none⟩ = some v8 := (World.cell?_setCell_other _ _ _ _ (by simp)).trans t8
              go_simp
              refine hK.out _ _ (hS.setCell (p := ⟨W1.heap.size + 1, 0, none⟩) (fun _ => .inr (.inl rfl)) _) (fun hS => ?_)
              clear hK K
              try simp only [List.setIfInBounds_toArray, List.set_cons_zero, List.set_cons_succ]
              refine wpAnyH_done (by kernel_rfl) ?_ _
              refine ⟨hS.mono (fun k _ h => ?_), HN2.out.trans' hS (fun i hi h => ?_), ?_⟩
              · rcases h with h | h | h
                · exact .inl h
                · exact .inr (.inl h)
                · have h3 : base ≤ k := (HOWN.out _ h).1
                  exact .inr (.inr (by have := HBAS.out; omega))
              · rcases h with h | h | h
                · exact .inr (.inl h)
                · exact .inr (.inr h)
                · have h3 : base ≤ i := (HOWN.out _ h).1
                  have := HBASE.out
                  have := HSZL.out
                  omega
              · have hb := HBASE.out
                rw [HBAS.out]
                exact FInv.stored hrw t7 t8 z7 z8 (by omega)
            refine AllReadyH.cons (o := _) rfl (fun K hK => ?_) AllReadyH.nil
            obtain ⟨V11, hV11⟩ : ∃ V11, V8.alloc (.cells #[.bool (decide (part ≤ shareL l x))] 4) = V11 := ⟨_, rfl⟩
            have hx11 : V11.cell? ⟨V8.heap.size, 0, none⟩ = some (.bool (decide (part ≤ shareL l x))) := by rw [← hV11]; exact cell_box V8 _ 4 0 _ rfl
            have hb11 : Below V8.heap.size V8 V11 := by rw [← hV11]; exact (Below.refl _ _).alloc (Nat.le_refl _) _
            have hrw := hrw.below hb11
            have hT := hT.trans (Near.of_below hb11 (fun k h1 h2 => by omega))
            go_simp
            refine hK.out _ _ (hT.mono (fun k _ hk => .inr (.inr hk))) (fun hS => ?_)
            clear hK K
            try simp only [List.setIfInBounds_toArray, List.set_cons_zero, List.set_cons_succ]
            refine wpAnyH_ready (rs := [4]) (by kernel_rfl) (by simp) ?_
            refine AllReadyH.cons (o := _) rfl (fun K hK => ?_) AllReadyH.nil
            have e8 : V11.cell? ⟨W1.heap.size + 1, 0, none⟩ = some v8 := near_cell HC8.out hT (fun hk => by have h3 : base ≤ W1.heap.size + 1 := (HRW.out.lt hk).1; have := HBASE.out; omega)
            go_simp
            refine hK.out _ _ (hT.mono (fun k _ hk => .inr (.inr hk))) (fun hS => ?_)
            clear hK K
            try simp only [List.setIfInBounds_toArray, List.set_cons_zero, List.set_cons_succ]
            refine wpAnyH_ready (rs := [12]) (by kernel_rfl) (by simp) ?_
            refine AllReadyH.cons (o := _) rfl (fun K hK => ?_) AllReadyH.nil
            refine step_bool (by rfl) (.tmp 27) (.tmp 34) (by rfl) base (.slice (some ⟨g3, 0, none⟩) (pre.length + 1) cap3) v8 (pre ++ [x]) (pre.map fun h => decide (part ≤ shareL l h)) (decide (part ≤ shareL l x)) V8.heap.size hrw rfl rfl hx11 (by rw [List.length_map]; exact HPL.out) (Nat.le_trans HBASE2 hT.size) ?_
            intro g12 cap12 V12 hrw hg12
            have hT := hT.grown hg12 (fun k hk _ => .inr hk)
            have t7 := near_cell HC7.out hT (fun hk => by have h3 : base ≤ W1.heap.size := (HRW.out.lt hk).1; have := HBASE.out; omega)
            have z7 := near_frozen HC7.out HF7.out hT (fun hk => by have h3 : base ≤ W1.heap.size := (HRW.out.lt hk).1; have := HBASE.out; omega)
            have t8 := near_cell HC8.out hT (fun hk => by have h3 : base ≤ W1.heap.size + 1 := (HRW.out.lt hk).1; have := HBASE.out; omega)
            have z8 := near_frozen HC8.out HF8.out hT (fun hk => by have h3 : base ≤ W1.heap.size + 1 := (HRW.out.lt hk).1; have := HBASE.out; omega)
            refine hK.out _ _ (hT.mono (fun k _ hk => .inr (.inr hk))) (fun hS => ?_)
            clear hK K
            try simp only [Act.put, List.getElem_toArray, List.getElem_cons_zero, List.getElem_cons_succ, List.setIfInBounds_toArray, List.set_cons_zero, List.set_cons_succ]
            refine wpAnyH_ready (rs := [13]) (by kernel_rfl) (by simp) ?_
            refine AllReadyH.cons (o := _) rfl (fun K hK => ?_) AllReadyH.nil
            go_simp
            refine hK.out _ _ ((hT.mono (T := fun k => k = W1.heap.size ∨ k = W1.heap.size + 1 ∨ v7.ownBlock = some k ∨ v8.ownBlock = some k) (fun k _ hk => .inr (.inr hk))).setCell (p := ⟨W1.heap.size, 0, none⟩) (fun _ => .inl rfl) _) (fun hS => ?_)
            clear hK K
            try simp only [List.setIfInBounds_toArray, List.set_cons_zero, List.set_cons_succ]
            refine wpAnyH_ready (rs := [14]) (by kernel_rfl) (by simp) ?_
            refine AllReadyH.cons (o := _) rfl (fun K hK => ?_) AllReadyH.nil
            have t8b : (V12.setCell ⟨W1.heap.size, 0, none⟩ (.slice (some ⟨g3, 0, none⟩) (pre.length + 1) cap3)).cell? ⟨W1.heap.size + 1, 0, none⟩ = some v8 := (World.cell?_setCell_other _ _ _ _ (by simp)).trans t8
            go_simp
            refine hK.out _ _ (hS.setCell (p := ⟨W1.heap.size + 1, 0, none⟩) (fun _ => .inr (.inl rfl)) _) (fun hS => ?_)
            clear hK K
            try simp only [List.setIfInBounds_toArray, List.set_cons_zero, List.set_cons_succ]
            refine wpAnyH_done (by kernel_rfl) ?_ _
            refine ⟨hS.mono (fun k _ h => ?_), HN2.out.trans' hS (fun i hi h => ?_), ?_⟩
            · rcases h with h | h | h
              · exact .inl h
              · exact .inr (.inl h)
              · have h3 : base ≤ k := (HOWN.out _ h).1
                exact .inr (.inr (by have := HBAS.out; omega))
            · rcases h with h | h | h
              · exact .inr (.inl h)
              · exact .inr (.inr h)
              · have h3 : base ≤ i := (HOWN.out _ h).1
                have := HBASE.out
                have := HSZL.out
                omega
            · have hb := HBASE.out
              rw [HBAS.out]
              exact FInv.stored hrw t7 t8 z7 z8 (by omega)
          refine AllReadyH.cons (o := _) rfl (fun K hK => ?_) AllReadyH.nil
          have e8 : V2.cell? ⟨W1.heap.size + 1, 0, none⟩ = some v8 := near_cell HC8.out hT (fun hk => by have h3 : base ≤ W1.heap.size + 1 := (HRW.out.lt hk).1; have := HBASE.out; omega)
          go_simp
          refine hK.out _ _ (hT.mono (fun k _ hk => .inr (.inr hk))) (fun hS => ?_)
          clear hK K
          try simp only [List.setIfInBounds_toArray, List.set_cons_zero, List.set_cons_succ]
          refine wpAnyH_ready (rs := [3]) (by kernel_rfl) (by simp) ?_
          refine AllReadyH.cons (o := _) rfl (fun K hK => ?_) AllReadyH.nil
          refine step_tru (by rfl) (.tmp 23) (.tmp 25) (by rfl) base v7 v8 pre (pre.map fun h => decide (part ≤ shareL l h)) x W2.heap.size hrw rfl rfl hx2 HPL.out (Nat.le_trans HBASE2 hT.size) ?_
          intro g3 cap3 V3 hrw hg3
          have hT := hT.grown hg3 (fun k hk _ => .inl hk)
          refine hK.out _ _ (hT.mono (fun k _ hk => .inr (.inr hk))) (fun hS => ?_)
          clear hK K
          try simp only [Act.put, List.getElem_toArray, List.getElem_cons_zero, List.getElem_cons_succ, List.setIfInBounds_toArray, List.set_cons_zero, List.set_cons_succ]
          refine wpAnyH_ready (rs := [8]) (by kernel_rfl) (by simp) ?_
          refine AllReadyH.cons (o := _) rfl (fun K hK => ?_) AllReadyH.nil
          go_simp
          refine (HSH.out V3 (HBW.out.trans (hT.below HBW.out.size (fun k hk hk2 => by have := (HRW.out.lt hk2).1; have := HBASE.out; have := HSZW.out; omega)))).mono ?_
          rintro e V8 ⟨rfl, hb8⟩
          have hrw := hrw.below hb8
          have hT := hT.trans (Near.of_below hb8 (fun k h1 h2 => by omega))
          refine hK.out _ _ (hT.mono (fun k _ hk => .inr (.inr hk))) (fun hS => ?_)
          clear hK K
          try simp only [List.setIfInBounds_toArray, List.set_cons_zero, List.set_cons_succ]
          refine wpAnyH_take (i := 10) (v := ?_) rfl (by kernel_rfl) (by kernel_rfl) (by kernel_rfl) (fun _ _ _ h => h) (Or.inl ⟨by rfl, fun V hV => ?_⟩) (by assumption) ?_
          rotate_left
          · go_simp
            try with_reducible rfl
          try simp only [Act.put, List.getElem_toArray, List.getElem_cons_zero, List.getElem_cons_succ, List.setIfInBounds_toArray, List.set_cons_zero, List.set_cons_succ]
          refine wpAnyH_ready (rs := [11]) (by kernel_rfl) (by simp) ?_
          refine AllReadyH.cons (o := _) rfl (fun K hK => ?_) AllReadyH.nil
          obtain ⟨V11, hV11⟩ : ∃ V11, V8.alloc (.cells #[.bool (decide (part ≤ shareL l x))] 4) = V11 := ⟨_, rfl⟩
          have hx11 : V11.cell? ⟨V8.heap.size, 0, none⟩ = some (.bool (decide (part ≤ shareL l x))) := by rw [← hV11]; exact cell_box V8 _ 4 0 _ rfl
          have hb11 : Below V8.heap.size V8 V11 := by rw [← hV11]; exact (Below.refl _ _).alloc (Nat.le_refl _) _
          have hrw := hrw.below hb11
          have hT := hT.trans (Near.of_below hb11 (fun k h1 h2 => by omega))
          go_simp
          refine hK.out _ _ (hT.mono (fun k _ hk => .inr (.inr hk))) (fun hS => ?_)
          clear hK K
          try simp only [List.setIfInBounds_toArray, List.set_cons_zero, List.set_cons_succ]
          refine wpAnyH_ready (rs := [12]) (by kernel_rfl) (by simp) ?_
          refine AllReadyH.cons (o := _) rfl (fun K hK => ?_) AllReadyH.nil
          refine step_bool (by rfl) (.tmp 27) (.tmp 34) (by rfl) base (.slice (some ⟨g3, 0, none⟩) (pre.length + 1) cap3) v8 (pre ++ [x]) (pre.map fun h => decide (part ≤ shareL l h)) (decide (part ≤ shareL l x)) V8.heap.size hrw rfl rfl hx11 (by rw [List.length_map]; exact HPL.out) (Nat.le_trans HBASE2 hT.size) ?_
          intro g12 cap12 V12 hrw hg12
          have hT := hT.grown hg12 (fun k hk _ => .inr hk)
          have t7 := near_cell HC7.out hT (fun hk => by have h3 : base ≤ W1.heap.size := (HRW.out.lt hk).1; have := HBASE.out; omega)
          have z7 := near_frozen HC7.out HF7.out hT (fun hk => by have h3 : base ≤ W1.heap.size := (HRW.out.lt hk).1; have := HBASE.out; omega)
          have t8 := near_cell HC8.out hT (fun hk => by have h3 : base ≤ W1.heap.size + 1 := (HRW.out.lt hk).1; have := HBASE.out; omega)
          have z8 := near_frozen HC8.out HF8.out hT (fun hk => by have h3 : base ≤ W1.heap.size + 1 := (HRW.out.lt hk).1; have := HBASE.out; omega)
          refine hK.out _ _ (hT.mono (fun k _ hk => .inr (.inr hk))) (fun hS => ?_)
          clear hK K
          try simp only [Act.put, List.getElem_toArray, List.getElem_cons_zero, List.getElem_cons_succ, List.setIfInBounds_toArray, List.set_cons_zero, List.set_cons_succ]
          refine wpAnyH_ready (rs := [13]) (by kernel_rfl) (by simp) ?_
          refine AllReadyH.cons (o := _) rfl (fun K hK => ?_) AllReadyH.nil
          go_simp
          refine hK.out _ _ ((hT.mono (T := fun k => k = W1.heap.size ∨ k = W1.heap.size + 1 ∨ v7.ownBlock = some k ∨ v8.ownBlock = some k) (fun k _ hk => .inr (.inr hk))).setCell (p := ⟨W1.heap.size, 0, none⟩) (fun _ => .inl rfl) _) (fun hS => ?_)
          clear hK K
          try simp only [List.setIfInBounds_toArray, List.set_cons_zero, List.set_cons_succ]
          refine wpAnyH_ready (rs := [14]) (by kernel_rfl) (by simp) ?_
          refine AllReadyH.cons (o := _) rfl (fun K hK => ?_) AllReadyH.nil
          have t8b : (V12.setCell ⟨W1.heap.size, 0, none⟩ (.slice (some ⟨g3, 0, none⟩) (pre.length + 1) cap3)).cell? ⟨W1.heap.size + 1, 0, none⟩ = some v8 := (World.cell?_setCell_other _ _ _ _ (by simp)).trans t8
          go_simp
          refine hK.out _ _ (hS.setCell (p := ⟨W1.heap.size + 1, 0, none⟩) (fun _ => .inr (.inl rfl)) _) (fun hS => ?_)
          clear hK K
          try simp only [List.setIfInBounds_toArray, List.set_cons_zero, List.set_cons_succ]
          refine wpAnyH_done (by kernel_rfl) ?_ _
          refine ⟨hS.mono (fun k _ h => ?_), HN2.out.trans' hS (fun i hi h => ?_), ?_⟩
          · rcases h with h | h | h
            · exact .inl h
            · exact .inr (.inl h)
            · have h3 : base ≤ k := (HOWN.out _ h).1
              exact .inr (.inr (by have := HBAS.out; omega))
          · rcases h with h | h | h
            · exact .inr (.inl h)
            · exact .inr (.inr h)
            · have h3 : base ≤ i := (HOWN.out _ h).1
              have := HBASE.out
              have := HSZL.out
              omega
          · have hb := HBASE.out
            rw [HBAS.out]
            exact FInv.stored hrw t7 t8 z7 z8 (by omega)
        refine AllReadyH.cons (o := _) rfl (fun K hK => ?_) AllReadyH.nil
        have e8 : W2.drew.cell? ⟨W1.heap.size + 1, 0, none⟩ = some v8 := near_cell HC8.out hT (fun hk => by have h3 : base ≤ W1.heap.size + 1 := (HRW.out.lt hk).1; have := HBASE.out; omega)
        go_simp
        refine hK.out _ _ (hT.mono (fun k _ hk => .inr (.inr hk))) (fun hS => ?_)
        clear hK K
        try simp only [List.setIfInBounds_toArray, List.set_cons_zero, List.set_cons_succ]
        refine wpAnyH_ready (rs := [2]) (by kernel_rfl) (by simp) ?_
        refine AllReadyH.cons (o := _) rfl (fun K hK => ?_) AllReadyH.nil
        obtain ⟨V2, hV2⟩ : ∃ V2, (W2.alloc (.cells #[.int .i64 (x[0]?.getD 0), .int .i64 (x[1]?.getD 0), .int .i64 (x[2]?.getD 0), .int .i64 (x[3]?.getD 0), .int .i64 (x[4]?.getD 0), .int .i64 (x[5]?.getD 0), .int .i64 (x[6]?.getD 0), .int .i64 (x[7]?.getD 0), .int .i64 (x[8]?.getD 0)] 116)).drew = V2 := ⟨_, rfl⟩
        have hx2 : HitsAt V2 W2.heap.size x := by rw [← hV2]; exact hitsAt_box W2 x 116
        have hb2 : Below W2.heap.size W2 V2 := by rw [← hV2]; exact ((Below.refl _ _).alloc (Nat.le_refl _) _).drew
        have hT : Near (fun k => v7.ownBlock = some k ∨ v8.ownBlock = some k) W2 V2 := Near.of_below hb2 (fun k h1 h2 => by omega)
        have hrw := HRW.out.below hb2
        go_simp
        refine hK.out _ _ (hT.mono (fun k _ hk => .inr (.inr hk))) (fun hS => ?_)
        clear hK K
        try simp only [List.setIfInBounds_toArray, List.set_cons_zero, List.set_cons_succ]
        refine wpAnyH_ready (rs := [3]) (by kernel_rfl) (by simp) ?_
        refine AllReadyH.cons (o := _) rfl (fun K hK => ?_) AllReadyH.nil
        refine step_tru (by rfl) (.tmp 23) (.tmp 25) (by rfl) base v7 v8 pre (pre.map fun h => decide (part ≤ shareL l h)) x W2.heap.size hrw rfl rfl hx2 HPL.out (Nat.le_trans HBASE2 hT.size) ?_
        intro g3 cap3 V3 hrw hg3
        have hT := hT.grown hg3 (fun k hk _ => .inl hk)
        refine hK.out _ _ (hT.mono (fun k _ hk => .inr (.inr hk))) (fun hS => ?_)
        clear hK K
        try simp only [Act.put, List.getElem_toArray, List.getElem_cons_zero, List.getElem_cons_succ, List.setIfInBounds_toArray, List.set_cons_zero, List.set_cons_succ]
        refine wpAnyH_ready (rs := [8]) (by kernel_rfl) (by simp) ?_
        refine AllReadyH.cons (o := _) rfl (fun K hK => ?_) AllReadyH.nil
        go_simp
        refine (HSH.out V3 (HBW.out.trans (hT.below HBW.out.size (fun k hk hk2 => by have := (HRW.out.lt hk2).1; have := HBASE.out; have := HSZW.out; omega)))).mono ?_
        rintro e V8 ⟨rfl, hb8⟩
        have hrw := hrw.below hb8
        have hT := hT.trans (Near.of_below hb8 (fun k h1 h2 => by omega))
        refine hK.out _ _ (hT.mono (fun k _ hk => .inr (.inr hk))) (fun hS => ?_)
        clear hK K
        try simp only [List.setIfInBounds_toArray, List.set_cons_zero, List.set_cons_succ]
        refine wpAnyH_take (i := 10) (v := ?_) rfl (by kernel_rfl) (by kernel_rfl) (by kernel_rfl) (fun _ _ _ h => h) (Or.inl ⟨by rfl, fun V hV => ?_⟩) (by assumption) ?_
        rotate_left
        · go_simp
          try with_reducible rfl
        try simp only [Act.put, List.getElem_toArray, List.getElem_cons_zero, List.getElem_cons_succ, List.setIfInBounds_toArray, List.set_cons_zero, List.set_cons_succ]
        refine wpAnyH_ready (rs := [11]) (by kernel_rfl) (by simp) ?_
        refine AllReadyH.cons (o := _) rfl (fun K hK => ?_) AllReadyH.nil
        obtain ⟨V11, hV11⟩ : ∃ V11, V8.alloc (.cells #[.bool (decide (part ≤ shareL l x))] 4) = V11 := ⟨_, rfl⟩
        have hx11 : V11.cell? ⟨V8.heap.size, 0, none⟩ = some (.bool (decide (part ≤ shareL l x))) := by rw [← hV11]; exact cell_box V8 _ 4 0 _ rfl
        have hb11 : Below V8.heap.size V8 V11 := by rw [← hV11]; exact (Below.refl _ _).alloc (Nat.le_refl _) _
        have hrw := hrw.below hb11
        have hT := hT.trans (Near.of_below hb11 (fun k h1 h2 => by omega))
        go_simp
        refine hK.out _ _ (hT.mono (fun k _ hk => .inr (.inr hk))) (fun hS => ?_)
        clear hK K
        try simp only [List.setIfInBounds_toArray, List.set_cons_zero, List.set_cons_succ]
        refine wpAnyH_ready (rs := [12]) (by kernel_rfl) (by simp) ?_
        refine AllReadyH.cons (o := _) rfl (fun K hK => ?_) AllReadyH.nil
        refine step_bool (by rfl) (.tmp 27) (.tmp 34) (by rfl) base (.slice (some ⟨g3, 0, none⟩) (pre.length + 1) cap3) v8 (pre ++ [x]) (pre.map fun h => decide (part ≤ shareL l h)) (decide (part ≤ shareL l x)) V8.heap.size hrw rfl rfl hx11 (by rw [List.length_map]; exact HPL.out) (Nat.le_trans HBASE2 hT.size) ?_
        intro g12 cap12 V12 hrw hg12
        have hT := hT.grown hg12 (fun k hk _ => .inr hk)
        have t7 := near_cell HC7.out hT (fun hk => by have h3 : base ≤ W1.heap.size := (HRW.out.lt hk).1; have := HBASE.out; omega)
        have z7 := near_frozen HC7.out HF7.out hT (fun hk => by have h3 : base ≤ W1.heap.size := (HRW.out.lt hk).1; have := HBASE.out; omega)
        have t8 := near_cell HC8.out hT (fun hk => by have h3 : base ≤ W1.heap.size + 1 := (HRW.out.lt hk).1; have := HBASE.out; omega)
        have z8 := near_frozen HC8.out HF8.out hT (fun hk => by have h3 : base ≤ W1.heap.size + 1 := (HRW.out.lt hk).1; have := HBASE.out; omega)
        refine hK.out _ _ (hT.mono (fun k _ hk => .inr (.inr hk))) (fun hS => ?_)
        clear hK K
        try simp only [Act.put, List.getElem_toArray, List.getElem_cons_zero, List.getElem_cons_succ, List.setIfInBounds_toArray, List.set_cons_zero, List.set_cons_succ]
        refine wpAnyH_ready (rs := [13]) (by kernel_rfl) (by simp) ?_
        refine AllReadyH.cons (o := _) rfl (fun K hK => ?_) AllReadyH.nil
        go_simp
        refine hK.out _ _ ((hT.mono (T := fun k => k = W1.heap.size ∨ k = W1.heap.size + 1 ∨ v7.ownBlock = some k ∨ v8.ownBlock = some k) (fun k _ hk => .inr (.inr hk))).setCell (p := ⟨W1.heap.size, 0, none⟩) (fun _ => .inl rfl) _) (fun hS => ?_)
        clear hK K
        try simp only [List.setIfInBounds_toArray, List.set_cons_zero, List.set_cons_succ]
        refine wpAnyH_ready (rs := [14]) (by kernel_rfl) (by simp) ?_
        refine AllReadyH.cons (o := _) rfl (fun K hK => ?_) AllReadyH.nil
        have t8b : (V12.setCell ⟨W1.heap.size, 0, none⟩ (.slice (some ⟨g3, 0, none⟩) (pre.length + 1) cap3)).cell? ⟨W1.heap.size + 1, 0, none⟩ = some v8 := (World.cell?_setCell_other _ _ _ _ (by simp)).trans t8
        go_simp
        refine hK.out _ _ (hS.setCell (p := ⟨W1.heap.size + 1, 0, none⟩) (fun _ => .inr (.inl rfl)) _) (fun hS => ?_)
        clear hK K
        try simp only [List.setIfInBounds_toArray, List.set_cons_zero, List.set_cons_succ]
        refine wpAnyH_done (by kernel_rfl) ?_ _
        refine ⟨hS.mono (fun k _ h => ?_), HN2.out.trans' hS (fun i hi h => ?_), ?_⟩
        · rcases h with h | h | h
          · exact .inl h
          · exact .inr (.inl h)
          · have h3 : base ≤ k := (HOWN.out _ h).1
            exact .inr (.inr (by have := HBAS.out; omega))
        · rcases h with h | h | h
          · exact .inr (.inl h)
          · exact .inr (.inr h)
          · have h3 : base ≤ i := (HOWN.out _ h).1
            have := HBASE.out
            have := HSZL.out
            omega
        · have hb := HBASE.out
          rw [HBAS.out]
          exact FInv.stored hrw t7 t8 z7 z8 (by omega)
      refine AllReadyH.cons (o := _) rfl (fun K hK => ?_) ?_
      · skip
        obtain ⟨V2, hV2⟩ : ∃ V2, (W2.alloc (.cells #[.int .i64 (x[0]?.getD 0), .int .i64 (x[1]?.getD 0), .int .i64 (x[2]?.getD 0), .int .i64 (x[3]?.getD 0), .int .i64 (x[4]?.getD 0), .int .i64 (x[5]?.getD 0), .int .i64 (x[6]?.getD 0), .int .i64 (x[7]?.getD 0), .int .i64 (x[8]?.getD 0)] 116)).drew = V2 := ⟨_, rfl⟩
        have hx2 : HitsAt V2 W2.heap.size x := by rw [← hV2]; exact hitsAt_box W2 x 116
        have hb2 : Below W2.heap.size W2 V2 := by rw [← hV2]; exact ((Below.refl _ _).alloc (Nat.le_refl _) _).drew
        have hT : Near (fun k => v7.ownBlock = some k ∨ v8.ownBlock = some k) W2 V2 := Near.of_below hb2 (fun k h1 h2 => by omega)
        have hrw := HRW.out.below hb2
        go_simp
        refine hK.out _ _ (hT.mono (fun k _ hk => .inr (.inr hk))) (fun hS => ?_)
        clear hK K
        try simp only [List.setIfInBounds_toArray, List.set_cons_zero, List.set_cons_succ]
        refine wpAnyH_ready (rs := [0, 4]) (by kernel_rfl) (by simp) ?_
        refine AllReadyH.cons (o := _) rfl (fun K hK => ?_) ?_
        · skip
          have e7 : V2.cell? ⟨W1.heap.size, 0, none⟩ = some v7 := near_cell HC7.out hT (fun hk => by have h3 : base ≤ W1.heap.size := (HRW.out.lt hk).1; have := HBASE.out; omega)
          go_simp
          refine hK.out _ _ (hT.mono (fun k _ hk => .inr (.inr hk))) (fun hS => ?_)
          clear hK K
          try simp only [List.setIfInBounds_toArray, List.set_cons_zero]
          refine wpAnyH_ready (rs := [3, 4]) (by kernel_rfl) (by simp) ?_
          refine AllReadyH.cons (o := _) rfl (fun K hK => ?_) ?_
          · skip
            refine step_tru (by rfl) (.tmp 23) (.tmp 25) (by rfl) base v7 v8 pre (pre.map fun h => decide (part ≤ shareL l h)) x W2.heap.size hrw rfl rfl hx2 HPL.out (Nat.le_trans HBASE2 hT.size) ?_
            intro g3 cap3 V3 hrw hg3
            have hT := hT.grown hg3 (fun k hk _ => .inl hk)
            refine hK.out _ _ (hT.mono (fun k _ hk => .inr (.inr hk))) (fun hS => ?_)
            clear hK K
            try simp only [Act.put, List.getElem_toArray, List.getElem_cons_zero, List.getElem_cons_succ, List.setIfInBounds_toArray, List.set_cons_zero, List.set_cons_succ]
            refine wpAnyH_ready (rs := [4, 8]) (by kernel_rfl) (by simp) ?_
            refine AllReadyH.cons (o := _) rfl (fun K hK => ?_) ?_
            · skip
              have e8 : V3.cell? ⟨W1.heap.size + 1, 0, none⟩ = some v8 := near_cell HC8.out hT (fun hk => by have h3 : base ≤ W1.heap.size + 1 := (HRW.out.lt hk).1; have := HBASE.out; omega)
              go_simp
              refine hK.out _ _ (hT.mono (fun k _ hk => .inr (.inr hk))) (fun hS => ?_)
              clear hK K
              try simp only [List.setIfInBounds_toArray, List.set_cons_zero, List.set_cons_succ]
              refine wpAnyH_ready (rs := [8]) (by kernel_rfl) (by simp) ?_
              refine AllReadyH.cons (o := _) rfl (fun K hK => ?_) AllReadyH.nil
              go_simp
              refine (HSH.out V3 (HBW.out.trans (hT.below HBW.out.size (fun k hk hk2 => by have := (HRW.out.lt hk2).1; have := HBASE.out; have := HSZW.out; omega)))).mono ?_
              rintro e V8 ⟨rfl, hb8⟩
              have hrw := hrw.below hb8
              have hT := hT.trans (Near.of_below hb8 (fun k h1 h2 => by omega))
              refine hK.out _ _ (hT.mono (fun k _ hk => .inr (.inr hk))) (fun hS => ?_)
              clear hK K
              try simp only [List.setIfInBounds_toArray, List.set_cons_zero, List.set_cons_succ]
              refine wpAnyH_take (i := 10) (v := ?_) rfl (by kernel_rfl) (by kernel_rfl) (by kernel_rfl) (fun _ _ _ h => h) (Or.inl ⟨by rfl, fun V hV => ?_⟩) (by assumption) ?_
              rotate_left
              · go_simp
                try with_reducible rfl
              try simp only [Act.put, List.getElem_toArray, List.getElem_cons_zero, List.getElem_cons_succ, List.setIfInBounds_toArray, List.set_cons_zero, List.set_cons_succ]
              refine wpAnyH_ready (rs := [11]) (by kernel_rfl) (by simp) ?_
              refine AllReadyH.cons (o := _) rfl (fun K hK => ?_) AllReadyH.nil
              obtain ⟨V11, hV11⟩ : ∃ V11, V8.alloc (.cells #[.bool (decide (part ≤ shareL l x))] 4) = V11 := ⟨_, rfl⟩
              have hx11 : V11.cell? ⟨V8.heap.size, 0, none⟩ = some (.bool (decide (part ≤ shareL l x))) := by rw [← hV11]; exact cell_box V8 _ 4 0 _ rfl
              have hb11 : Below V8.heap.size V8 V11 := by rw [← hV11]; exact (Below.refl _ _).alloc (Nat.le_refl _) _
              have hrw := hrw.below hb11
              have hT := hT.trans (Near.of_below hb11 (fun k h1 h2 => by omega))
              go_simp
              refine hK.out _ _ (hT.mono (fun k _ hk => .inr (.inr hk))) (fun hS => ?_)
              clear hK K
              try simp only [List.setIfInBounds_toArray, List.set_cons_zero, List.set_cons_succ]
              refine wpAnyH_ready (rs := [12]) (by kernel_rfl) (by simp) ?_
              refine AllReadyH.cons (o := _) rfl (fun K hK => ?_) AllReadyH.nil
              refine step_bool (by rfl) (.tmp 27) (.tmp 34) (by rfl) base (.slice (some ⟨g3, 0, none⟩) (pre.length + 1) cap3) v8 (pre ++ [x]) (pre.map fun h => decide (part ≤ shareL l h)) (decide (part ≤ shareL l x)) V8.heap.size hrw rfl rfl hx11 (by rw [List.length_map]; exact HPL.out) (Nat.le_trans HBASE2 hT.size) ?_
              intro g12 cap12 V12 hrw hg12
              have hT := hT.grown hg12 (fun k hk _ => .inr hk)
              have t7 := near_cell HC7.out hT (fun hk => by have h3 : base ≤ W1.heap.size := (HRW.out.lt hk).1; have := HBASE.out; omega)
              have z7 := near_frozen HC7.out HF7.out hT (fun hk => by have h3 : base ≤ W1.heap.size := (HRW.out.lt hk).1; have := HBASE.out; omega)
              have t8 := near_cell HC8.out hT (fun hk => by have h3 : base ≤ W1.heap.size + 1 := (HRW.out.lt hk).1; have := HBASE.out; omega)
              have z8 := near_frozen HC8.out HF8.out hT (fun hk => by have h3 : base ≤ W1.heap.size + 1 := (HRW.out.lt hk).1; have := HBASE.out; omega)
              refine hK.out _ _ (hT.mono (fun k _ hk => .inr (.inr hk))) (fun hS => ?_)
              clear hK K
              try simp only [Act.put, List.getElem_toArray, List.getElem_cons_zero, List.getElem_cons_succ, List.setIfInBounds_toArray, List.set_cons_zero, List.set_cons_succ]
              refine wpAnyH_ready (rs := [13]) (by kernel_rfl) (by simp) ?_
              refine AllReadyH.cons (o := _) rfl (fun K hK => ?_) AllReadyH.nil
              go_simp
              refine hK.out _ _ ((hT.mono (T := fun k => k = W1.heap.size ∨ k = W1.heap.size + 1 ∨ v7.ownBlock = some k ∨ v8.ownBlock = some k) (fun k _ hk => .inr (.inr hk))).setCell (p := ⟨W1.heap.size, 0, none⟩) (fun _ => .inl rfl) _) (fun hS => ?_)
              clear hK K
              try simp only [List.setIfInBounds_toArray, List.set_cons_zero, List.set_cons_succ]
              refine wpAnyH_ready (rs := [14]) (by kernel_rfl) (by simp) ?_
              refine AllReadyH.cons (o := _) rfl (fun K hK => ?_) AllReadyH.nil
              have t8b : (V12.setCell ⟨W1.heap.size, 0, none⟩ (.slice (some ⟨g3, 0, none⟩) (pre.length + 1) cap3)).cell? ⟨W1.heap.size + 1, 0, none⟩ = some v8 := (World.cell?_setCell_other _ _ _ _ (by simp)).trans t8
              go_simp
              refine hK.out _ _ (hS.setCell (p := ⟨W1.heap.size + 1, 0, none⟩) (fun _ => .inr (.inl rfl)) _) (fun hS => ?_)
              clear hK K
              try simp only [List.setIfInBounds_toArray, List.set_cons_zero, List.set_cons_succ]
              refine wpAnyH_done (by kernel_rfl) ?_ _
              refine ⟨hS.mono (fun k _ h => ?_), HN2.out.trans' hS (fun i hi h => ?_), ?_⟩
              · rcases h with h | h | h
                · exact .inl h
                · exact .inr (.inl h)
                · have h3 : base ≤ k := (HOWN.out _ h).1
                  exact .inr (.inr (by have := HBAS.out; omega))
              · rcases h with h | h | h
                · exact .inr (.inl h)
                · exact .inr (.inr h)
                · have h3 : base ≤ i := (HOWN.out _ h).1
                  have := HBASE.out
                  have := HSZL.out
                  omega
              · have hb := HBASE.out
                rw [HBAS.out]
                exact FInv.stored hrw t7 t8 z7 z8 (by omega)
            refine AllReadyH.cons (o := _) rfl (fun K hK => ?_) AllReadyH.nil
            go_simp
            refine (HSH.out V3 (HBW.out.trans (hT.below HBW.out.size (fun k hk hk2 => by have := (HRW.out.lt hk2).1; have := HBASE.out; have := HSZW.out; omega)))).mono ?_
            rintro e V8 ⟨rfl, hb8⟩
            have hrw := hrw.below hb8
            have hT := hT.trans (Near.of_below hb8 (fun k h1 h2 => by omega))
            refine hK.out _ _ (hT.mono (fun k _ hk => .inr (.inr hk))) (fun hS => ?_)
            clear hK K
            try simp only [List.setIfInBounds_toArray, List.set_cons_zero, List.set_cons_succ]
            refine wpAnyH_take (i := 10) (v := ?_) rfl (by kernel_rfl) (by kernel_rfl) (by kernel_rfl) (fun _ _ _ h => h) (Or.inl ⟨by rfl, fun V hV => ?_⟩) (by assumption) ?_
            rotate_left
            · go_simp
              try with_reducible rfl
            try simp only [Act.put, List.getElem_toArray, List.getElem_cons_zero, List.getElem_cons_succ, List.setIfInBounds_toArray, List.set_cons_zero, List.set_cons_succ]
            refine wpAnyH_ready (rs := [4, 11]) (by kernel_rfl) (by simp) ?_
            refine AllReadyH.cons (o := _) rfl (fun K hK => ?_) ?_
            · skip
              have e8 : V8.cell? ⟨W1.heap.size + 1, 0, none⟩ = some v8 := near_cell HC8.out hT (fun hk => by have h3 : base ≤ W1.heap.size + 1 := (HRW.out.lt hk).1; have := HBASE.out; omega)
              go_simp
              refine hK.out _ _ (hT.mono (fun k _ hk => .inr (.inr hk))) (fun hS => ?_)
              clear hK K
              try simp only [List.setIfInBounds_toArray, List.set_cons_zero, List.set_cons_succ]
              refine wpAnyH_ready (rs := [11]) (by kernel_rfl) (by simp) ?_
              refine AllReadyH.cons (o := _) rfl (fun K hK => ?_) AllReadyH.nil
              obtain ⟨V11, hV11⟩ : ∃ V11, V8.alloc (.cells #[.bool (decide (part ≤ shareL l x))] 4) = V11 := ⟨_, rfl⟩
              have hx11 : V11.cell? ⟨V8.heap.size, 0, none⟩ = some (.bool (decide (part ≤ shareL l x))) := by rw [← hV11]; exact cell_box V8 _ 4 0 _ rfl
              have hb11 : Below V8.heap.size V8 V11 := by rw [← hV11]; exact (Below.refl _ _).alloc (Nat.le_refl _) _
              have hrw := hrw.below hb11
              have hT := hT.trans (Near.of_below hb11 (fun k h1 h2 => by omega))
              go_simp
              refine hK.out _ _ (hT.mono (fun k _ hk => .inr (.inr hk))) (fun hS => ?_)
              clear hK K
              try simp only [List.setIfInBounds_toArray, List.set_cons_zero, List.set_cons_succ]
              refine wpAnyH_ready (rs := [12]) (by kernel_rfl) (by simp) ?_
              refine AllReadyH.cons (o := _) rfl (fun K hK => ?_) AllReadyH.nil
              refine step_bool (by rfl) (.tmp 27) (.tmp 34) (by rfl) base (.slice (some ⟨g3, 0, none⟩) (pre.length + 1) cap3) v8 (pre ++ [x]) (pre.map fun h => decide (part ≤ shareL l h)) (decide (part ≤ shareL l x)) V8.heap.size hrw rfl rfl hx11 (by rw [List.length_map]; exact HPL.out) (Nat.le_trans HBASE2 hT.size) ?_
              intro g12 cap12 V12 hrw hg12
              have hT := hT.grown hg12 (fun k hk _ => .inr hk)
              have t7 := near_cell HC7.out hT (fun hk => by have h3 : base ≤ W1.heap.size := (HRW.out.lt hk).1; have := HBASE.out; omega)
              have z7 := near_frozen HC7.out HF7.out hT (fun hk => by have h3 : base ≤ W1.heap.size := (HRW.out.lt hk).1; have := HBASE.out; omega)
              have t8 := near_cell HC8.out hT (fun hk => by have h3 : base ≤ W1.heap.size + 1 := (HRW.out.lt hk).1; have := HBASE.out; omega)
              have z8 := near_frozen HC8.out HF8.out hT (fun hk => by have h3 : base ≤ W1.heap.size + 1 := (HRW.out.lt hk).1; have := HBASE.out; omega)
              refine hK.out _ _ (hT.mono (fun k _ hk => .inr (.inr hk))) (fun hS => ?_)
              clear hK K
              try simp only [Act.put, List.getElem_toArray, List.getElem_cons_zero, List.getElem_cons_succ, List.setIfInBounds_toArray, List.set_cons_zero, List.set_cons_succ]
              refine wpAnyH_ready (rs := [13]) (by kernel_rfl) (by simp) ?_
              refine AllReadyH.cons (o := _) rfl (fun K hK => ?_) AllReadyH.nil
              go_simp
              refine hK.out _ _ ((hT.mono (T := fun k => k = W1.heap.size ∨ k = W1.heap.size + 1 ∨ v7.ownBlock = some k ∨ v8.ownBlock = some k) (fun k _ hk => .inr (.inr hk))).setCell (p := ⟨W1.heap.size, 0, none⟩) (fun _ => .inl rfl) _) (fun hS => ?_)
              clear hK K
              try simp only [List.setIfInBounds_toArray, List.set_cons_zero, List.set_cons_succ]
              refine wpAnyH_ready (rs := [14]) (by kernel_rfl) (by simp) ?_
              refine AllReadyH.cons (o := _) rfl (fun K hK => ?_) AllReadyH.nil
              have t8b : (V12.setCell ⟨W1.heap.size, 0, none⟩ (.slice (some ⟨g3, 0, none⟩) (pre.length + 1) cap3)).cell? ⟨W1.heap.size + 1, 0, none⟩ = some v8 := (World.cell?_setCell_other _ _ _ _ (by simp)).trans t8
              go_simp
              refine hK.out _ _ (hS.setCell (p := ⟨W1.heap.size + 1, 0, none⟩) (fun _ => .inr (.inl rfl)) _) (fun hS => ?_)
              clear hK K
              try simp only [List.setIfInBounds_toArray, List.set_cons_zero, List.set_cons_succ]
              refine wpAnyH_done (by kernel_rfl) ?_ _
              refine ⟨hS.mono (fun k _ h => ?_), HN2.out.trans' hS (fun i hi h => ?_), ?_⟩
              · rcases h with h | h | h
                · exact .inl h
                · exact .inr (.inl h)
                · have h3 : base ≤ k := (HOWN.out _ h).1
                  exact .inr (.inr (by have := HBAS.out; omega))
              · rcases h with h | h | h
                · exact .inr (.inl h)
                · exact .inr (.inr h)
                · have h3 : base ≤ i := (HOWN.out _ h).1
                  have := HBASE.out
                  have := HSZL.out
                  omega
              · have hb := HBASE.out
                rw [HBAS.out]
                exact FInv.stored hrw t7 t8 z7 z8 (by omega)
            refine AllReadyH.cons (o := _) rfl (fun K hK => ?_) AllReadyH.nil
            obtain ⟨V11, hV11⟩ : ∃ V11, V8.alloc (.cells #[.bool (decide (part ≤ shareL l x))] 4) = V11 := ⟨_, rfl⟩
            have hx11 : V11.cell? ⟨V8.heap.size, 0, none⟩ = some (.bool (decide (part ≤ shareL l x))) := by rw [← hV11]; exact cell_box V8 _ 4 0 _ rfl
            have hb11 : Below V8.heap.size V8 V11 := by rw [← hV11]; exact (Below.refl _ _).alloc (Nat.le_refl _) _
            have hrw := hrw.below hb11
            have hT := hT.trans (Near.of_below hb11 (fun k h1 h2 => by omega))
            go_simp
            refine hK.out _ _ (hT.mono (fun k _ hk => .inr (.inr hk))) (fun hS => ?_)
            clear hK K
            try simp only [List.setIfInBounds_toArray, List.set_cons_zero, List.set_cons_succ]
            refine wpAnyH_ready (rs := [4]) (by kernel_rfl) (by simp) ?_
            refine AllReadyH.cons (o := _) rfl (fun K hK => ?_) AllReadyH.nil
            have e8 : V11.cell? ⟨W1.heap.size + 1, 0, none⟩ = some v8 := near_cell HC8.out hT (fun hk => by have h3 : base ≤ W1.heap.size + 1 := (HRW.out.lt hk).1; have := HBASE.out; omega)
            go_simp
            refine hK.out _ _ (hT.mono (fun k _ hk => .inr (.inr hk))) (fun hS => ?_)
            clear hK K
            try simp only [List.setIfInBounds_toArray, List.set_cons_zero, List.set_cons_succ]
            refine wpAnyH_ready (rs := [12]) (by kernel_rfl) (by simp) ?_
            refine AllReadyH.cons (o := _) rfl (fun K hK => ?_) AllReadyH.nil
            refine step_bool (by rfl) (.tmp 27) (.tmp 34) (by rfl) base (.slice (some ⟨g3, 0, none⟩) (pre.length + 1) cap3) v8 (pre ++ [x]) (pre.map fun h => decide (part ≤ shareL l h)) (decide (part ≤ shareL l x)) V8.heap.size hrw rfl rfl hx11 (by rw [List.length_map]; exact HPL.out) (Nat.le_trans HBASE2 hT.size) ?_
            intro g12 cap12 V12 hrw hg12
            have hT := hT.grown hg12 (fun k hk _ => .inr hk)
            have t7 := near_cell HC7.out hT (fun hk => by have h3 : base ≤ W1.heap.size := (HRW.out.lt hk).1; have := HBASE.out; omega)
            have z7 := near_frozen HC7.out HF7.out hT (fun hk => by have h3 : base ≤ W1.heap.size := (HRW.out.lt hk).1; have := HBASE.out; omega)
            have t8 := near_cell HC8.out hT (fun hk => by have h3 : base ≤ W1.heap.size + 1 := (HRW.out.lt hk).1; have := HBASE.out; omega)
            have z8 := near_frozen HC8.out HF8.out hT (fun hk => by have h3 : base ≤ W1.heap.size + 1 := (HRW.out.lt hk).1; have := HBASE.out; omega)
            refine hK.out _ _ (hT.mono (fun k _ hk => .inr (.inr hk))) (fun hS => ?_)
            clear hK K
            try simp only [Act.put, List.getElem_toArray, List.getElem_cons_zero, List.getElem_cons_succ, List.setIfInBounds_toArray, List.set_cons_zero, List.set_cons_succ]
            refine wpAnyH_ready (rs := [13]) (by kernel_rfl) (by simp) ?_
            refine AllReadyH.cons (o := _) rfl (fun K hK => ?_) AllReadyH.nil
            go_simp
            refine hK.out _ _ ((hT.mono (T := fun k => k = W1.heap.size ∨ k = W1.heap.size + 1 ∨ v7.ownBlock = some k ∨ v8.ownBlock = some k) (fun k _ hk => .inr (.inr hk))).setCell (p := ⟨W1.heap.size, 0, none⟩) (fun _ => .inl rfl) _) (fun hS => ?_)
            clear hK K
            try simp only [List.setIfInBounds_toArray, List.set_cons_zero, List.set_cons_succ]
            refine wpAnyH_ready (rs := [14]) (by kernel_rfl) (by simp) ?_
            refine AllReadyH.cons (o := _) rfl (fun K hK => ?_) AllReadyH.nil
            have t8b : (V12.setCell ⟨W1.heap.size, 0, none⟩ (.slice (some ⟨g3, 0, none⟩) (pre.length + 1) cap3)).cell? ⟨W1.heap.size + 1, 0, none⟩ = some v8 := (World.cell?_setCell_other _ _ _ _ (by simp)).trans t8
            go_simp
            refine hK.out _ _ (hS.setCell (p := ⟨W1.heap.size + 1, 0, none⟩) (fun _ => .inr (.inl rfl)) _) (fun hS => ?_)
            clear hK K
            try simp only [List.setIfInBounds_toArray, List.set_cons_zero, List.set_cons_succ]
            refine wpAnyH_done (by kernel_rfl) ?_ _
            refine ⟨hS.mono (fun k _ h => ?_), HN2.out.trans' hS (fun i hi h => ?_), ?_⟩
            · rcases h with h | h | h
              · exact .inl h
              · exact .inr (.inl h)
              · have h3 : base ≤ k := (HOWN.out _ h).1
                exact .inr (.inr (by have := HBAS.out; omega))
            · rcases h with h | h | h
              · exact .inr (.inl h)
              · exact .inr (.inr h)
              · have h3 : base ≤ i := (HOWN.out _ h).1
                have := HBASE.out
                have := HSZL.out
                omega
            · have hb := HBASE.out
              rw [HBAS.out]
              exact FInv.stored hrw t7 t8 z7 z8 (by omega)
          refine AllReadyH.cons (o := _) rfl (fun K hK => ?_) AllReadyH.nil
          have e8 : V2.cell? ⟨W1.heap.size + 1, 0, none⟩ = some v8 := near_cell HC8.out hT (fun hk => by have h3 : base ≤ W1.heap.size + 1 := (HRW.out.lt hk).1; have := HBASE.out; omega)
          go_simp
          refine hK.out _ _ (hT.mono (fun k _ hk => .inr (.inr hk))) (fun hS => ?_)
          clear hK K
          try simp only [List.setIfInBounds_toArray, List.set_cons_zero, List.set_cons_succ]
          refine wpAnyH_ready (rs := [3]) (by kernel_rfl) (by simp) ?_
          refine AllReadyH.cons (o := _) rfl (fun K hK => ?_) AllReadyH.nil
          refine step_tru (by rfl) (.tmp 23) (.tmp 25) (by rfl) base v7 v8 pre (pre.map fun h => decide (part ≤ shareL l h)) x W2.heap.size hrw rfl rfl hx2 HPL.out (Nat.le_trans HBASE2 hT.size) ?_
          intro g3 cap3 V3 hrw hg3
          have hT := hT.grown hg3 (fun k hk _ => .inl hk)
          refine hK.out _ _ (hT.mono (fun k _ hk => .inr (.inr hk))) (fun hS => ?_)
          clear hK K
          try simp only [Act.put, List.getElem_toArray, List.getElem_cons_zero, List.getElem_cons_succ, List.setIfInBounds_toArray, List.set_cons_zero, List.set_cons_succ]
          refine wpAnyH_ready (rs := [8]) (by kernel_rfl) (by simp) ?_
          refine AllReadyH.cons (o := _) rfl (fun K hK => ?_) AllReadyH.nil
          go_simp
          refine (HSH.out V3 (HBW.out.trans (hT.below HBW.out.size (fun k hk hk2 => by have := (HRW.out.lt hk2).1; have := HBASE.out; have := HSZW.out; omega)))).mono ?_
          rintro e V8 ⟨rfl, hb8⟩
          have hrw := hrw.below hb8
          have hT := hT.trans (Near.of_below hb8 (fun k h1 h2 => by omega))
          refine hK.out _ _ (hT.mono (fun k _ hk => .inr (.inr hk))) (fun hS => ?_)
          clear hK K
          try simp only [List.setIfInBounds_toArray, List.set_cons_zero, List.set_cons_succ]
          refine wpAnyH_take (i := 10) (v := ?_) rfl (by kernel_rfl) (by kernel_rfl) (by kernel_rfl) (fun _ _ _ h => h) (Or.inl ⟨by rfl, fun V hV => ?_⟩) (by assumption) ?_
          rotate_left
          · go_simp
            try with_reducible rfl
          try simp only [Act.put, List.getElem_toArray, List.getElem_cons_zero, List.getElem_cons_succ, List.setIfInBounds_toArray, List.set_cons_zero, List.set_cons_succ]
          refine wpAnyH_ready (rs := [11]) (by kernel_rfl) (by simp) ?_
          refine AllReadyH.cons (o := _) rfl (fun K hK => ?_) AllReadyH.nil
          obtain ⟨V11, hV11⟩ : ∃ V11, V8.alloc (.cells #[.bool (decide (part ≤ shareL l x))] 4) = V11 := ⟨_, rfl⟩
          have hx11 : V11.cell? ⟨V8.heap.size, 0, none⟩ = some (.bool (decide (part ≤ shareL l x))) := by rw [← hV11]; exact cell_box V8 _ 4 0 _ rfl
          have hb11 : Below V8.heap.size V8 V11 := by rw [← hV11]; exact (Below.refl _ _).alloc (Nat.le_refl _) _
          have hrw := hrw.below hb11
          have hT := hT.trans (Near.of_below hb11 (fun k h1 h2 => by omega))
          go_simp
          refine hK.out _ _ (hT.mono (fun k _ hk => .inr (.inr hk))) (fun hS => ?_)
          clear hK K
          try simp only [List.setIfInBounds_toArray, List.set_cons_zero, List.set_cons_succ]
          refine wpAnyH_ready (rs := [12]) (by kernel_rfl) (by simp) ?_
          refine AllReadyH.cons (o := _) rfl (fun K hK => ?_) AllReadyH.nil
          refine step_bool (by rfl) (.tmp 27) (.tmp 34) (by rfl) base (.slice (some ⟨g3, 0, none⟩) (pre.length + 1) cap3) v8 (pre ++ [x]) (pre.map fun h => decide (part ≤ shareL l h)) (decide (part ≤ shareL l x)) V8.heap.size hrw rfl rfl hx11 (by rw [List.length_map]; exact HPL.out) (Nat.le_trans HBASE2 hT.size) ?_
          intro g12 cap12 V12 hrw hg12
          have hT := hT.grown hg12 (fun k hk _ => .inr hk)
          have t7 := near_cell HC7.out hT (fun hk => by have h3 : base ≤ W1.heap.size := (HRW.out.lt hk).1; have := HBASE.out; omega)
          have z7 := near_frozen HC7.out HF7.out hT (fun hk => by have h3 : base ≤ W1.heap.size := (HRW.out.lt hk).1; have := HBASE.out; omega)
          have t8 := near_cell HC8.out hT (fun hk => by have h3 : base ≤ W1.heap.size + 1 := (HRW.out.lt hk).1; have := HBASE.out; omega)
          have z8 := near_frozen HC8.out HF8.out hT (fun hk => by have h3 : base ≤ W1.heap.size + 1 := (HRW.out.lt hk).1; have := HBASE.out; omega)
          refine hK.out _ _ (hT.mono (fun k _ hk => .inr (.inr hk))) (fun hS => ?_)
          clear hK K
          try simp only [Act.put, List.getElem_toArray, List.getElem_cons_zero, List.getElem_cons_succ, List.setIfInBounds_toArray, List.set_cons_zero, List.set_cons_succ]
          refine wpAnyH_ready (rs := [13]) (by kernel_rfl) (by simp) ?_
          refine AllReadyH.cons (o := _) rfl (fun K hK => ?_) AllReadyH.nil
          go_simp
          refine hK.out _ _ ((hT.mono (T := fun k => k = W1.heap.size ∨ k = W1.heap.size + 1 ∨ v7.ownBlock = some k ∨ v8.ownBlock = some k) (fun k _ hk => .inr (.inr hk))).setCell (p := ⟨W1.heap.size, 0, none⟩) (fun _ => .inl rfl) _) (fun hS => ?_)
          clear hK K
          try simp only [List.setIfInBounds_toArray, List.set_cons_zero, List.set_cons_succ]
          refine wpAnyH_ready (rs := [14]) (by kernel_rfl) (by simp) ?_
          refine AllReadyH.cons (o := _) rfl (fun K hK => ?_) AllReadyH.nil
          have t8b : (V12.setCell ⟨W1.heap.size, 0, none⟩ (.slice (some ⟨g3, 0, none⟩) (pre.length + 1) cap3)).cell? ⟨W1.heap.size + 1, 0, none⟩ = some v8 := (World.cell?_setCell_other _ _ _ _ (by simp)).trans t8
          go_simp
          refine hK.out _ _ (hS.setCell (p := ⟨W1.heap.size + 1, 0, none⟩) (fun _ => .inr (.inl rfl)) _) (fun hS => ?_)
          clear hK K
          try simp only [List.setIfInBounds_toArray, List.set_cons_zero, List.set_cons_succ]
          refine wpAnyH_done (by kernel_rfl) ?_ _
          refine ⟨hS.mono (fun k _ h => ?_), HN2.out.trans' hS (fun i hi h => ?_), ?_⟩
          · rcases h with h | h | h
            · exact .inl h
            · exact .inr (.inl h)
            · have h3 : base ≤ k := (HOWN.out _ h).1
              exact .inr (.inr (by have := HBAS.out; omega))
          · rcases h with h | h | h
            · exact .inr (.inl h)
            · exact .inr (.inr h)
            · have h3 : base ≤ i := (HOWN.out _ h).1
              have := HBASE.out
              have := HSZL.out
              omega
          · have hb := HBASE.out
            rw [HBAS.out]
            exact FInv.stored hrw t7 t8 z7 z8 (by omega)
        refine AllReadyH.cons (o := _) rfl (fun K hK => ?_) AllReadyH.nil
        have e8 : V2.cell? ⟨W1.heap.size + 1, 0, none⟩ = some v8 := near_cell HC8.out hT (fun hk => by have h3 : base ≤ W1.heap.size + 1 := (HRW.out.lt hk).1; have := HBASE.out; omega)
        go_simp
        refine hK.out _ _ (hT.mono (fun k _ hk => .inr (.inr hk))) (fun hS => ?_)
        clear hK K
        try simp only [List.setIfInBounds_toArray, List.set_cons_zero, List.set_cons_succ]
        refine wpAnyH_ready (rs := [0]) (by kernel_rfl) (by simp) ?_
        refine AllReadyH.cons (o := _) rfl (fun K hK => ?_) AllReadyH.nil
        have e7 : V2.cell? ⟨W1.heap.size, 0, none⟩ = some v7 := near_cell HC7.out hT (fun hk => by have h3 : base ≤ W1.heap.size := (HRW.out.lt hk).1; have := HBASE.out; omega)
        go_simp
        refine hK.out _ _ (hT.mono (fun k _ hk => .inr (.inr hk))) (fun hS => ?_)
        clear hK K
        try simp only [List.setIfInBounds_toArray, List.set_cons_zero]
        refine wpAnyH_ready (rs := [3]) (by kernel_rfl) (by simp) ?_
        refine AllReadyH.cons (o := _) rfl (fun K hK => ?_) AllReadyH.nil
        refine step_tru (by rfl) (.tmp 23) (.tmp 25) (by rfl) base v7 v8 pre (pre.map fun h => decide (part ≤ shareL l h)) x W2.heap.size hrw rfl rfl hx2 HPL.out (Nat.le_trans HBASE2 hT.size) ?_
        intro g3 cap3 V3 hrw hg3
        have hT := hT.grown hg3 (fun k hk _ => .inl hk)
        refine hK.out _ _ (hT.mono (fun k _ hk => .inr (.inr hk))) (fun hS => ?_)
        clear hK K
        try simp only [Act.put, List.getElem_toArray, List.getElem_cons_zero, List.getElem_cons_succ, List.setIfInBounds_toArray, List.set_cons_zero, List.set_cons_succ]
        refine wpAnyH_ready (rs := [8]) (by kernel_rfl) (by simp) ?_
        refine AllReadyH.cons (o := _) rfl (fun K hK => ?_) AllReadyH.nil
        go_simp
        refine (HSH.out V3 (HBW.out.trans (hT.below HBW.out.size (fun k hk hk2 => by have := (HRW.out.lt hk2).1; have := HBASE.out; have := HSZW.out; omega)))).mono ?_
        rintro e V8 ⟨rfl, hb8⟩
        have hrw := hrw.below hb8
        have hT := hT.trans (Near.of_below hb8 (fun k h1 h2 => by omega))
        refine hK.out _ _ (hT.mono (fun k _ hk => .inr (.inr hk))) (fun hS => ?_)
        clear hK K
        try simp only [List.setIfInBounds_toArray, List.set_cons_zero, List.set_cons_succ]
        refine wpAnyH_take (i := 10) (v := ?_) rfl (by kernel_rfl) (by kernel_rfl) (by kernel_rfl) (fun _ _ _ h => h) (Or.inl ⟨by rfl, fun V hV => ?_⟩) (by assumption) ?_
        rotate_left
        · go_simp
          try with_reducible rfl
        try simp only [Act.put, List.getElem_toArray, List.getElem_cons_zero, List.getElem_cons_succ, List.setIfInBounds_toArray, List.set_cons_zero, List.set_cons_succ]
        refine wpAnyH_ready (rs := [11]) (by kernel_rfl) (by simp) ?_
        refine AllReadyH.cons (o := _) rfl (fun K hK => ?_) AllReadyH.nil
        obtain ⟨V11, hV11⟩ : ∃ V11, V8.alloc (.cells #[.bool (decide (part ≤ shareL l x))] 4) = V11 := ⟨_, rfl⟩
        have hx11 : V11.cell? ⟨V8.heap.size, 0, none⟩ = some (.bool (decide (part ≤ shareL l x))) := by rw [← hV11]; exact cell_box V8 _ 4 0 _ rfl
        have hb11 : Below V8.heap.size V8 V11 := by rw [← hV11]; exact (Below.refl _ _).alloc (Nat.le_refl _) _
        have hrw := hrw.below hb11
        have hT := hT.trans (Near.of_below hb11 (fun k h1 h2 => by omega))
        go_simp
        refine hK.out _ _ (hT.mono (fun k _ hk => .inr (.inr hk))) (fun hS => ?_)
        clear hK K
        try simp only [List.setIfInBounds_toArray, List.set_cons_zero, List.set_cons_succ]
        refine wpAnyH_ready (rs := [12]) (by kernel_rfl) (by simp) ?_
        refine AllReadyH.cons (o := _) rfl (fun K hK => ?_) AllReadyH.nil
        refine step_bool (by rfl) (.tmp 27) (.tmp 34) (by rfl) base (.slice (some ⟨g3, 0, none⟩) (pre.length + 1) cap3) v8 (pre ++ [x]) (pre.map fun h => decide (part ≤ shareL l h)) (decide (part ≤ shareL l x)) V8.heap.size hrw rfl rfl hx11 (by rw [List.length_map]; exact HPL.out) (Nat.le_trans HBASE2 hT.size) ?_
        intro g12 cap12 V12 hrw hg12
        have hT := hT.grown hg12 (fun k hk _ => .inr hk)
        have t7 := near_cell HC7.out hT (fun hk => by have h3 : base ≤ W1.heap.size := (HRW.out.lt hk).1; have := HBASE.out; omega)
        have z7 := near_frozen HC7.out HF7.out hT (fun hk => by have h3 : base ≤ W1.heap.size := (HRW.out.lt hk).1; have := HBASE.out; omega)
        have t8 := near_cell HC8.out hT (fun hk => by have h3 : base ≤ W1.heap.size + 1 := (HRW.out.lt hk).1; have := HBASE.out; omega)
        have z8 := near_frozen HC8.out HF8.out hT (fun hk => by have h3 : base ≤ W1.heap.size + 1 := (HRW.out.lt hk).1; have := HBASE.out; omega)
        refine hK.out _ _ (hT.mono (fun k _ hk => .inr (.inr hk))) (fun hS => ?_)
        clear hK K
        try simp only [Act.put, List.getElem_toArray, List.getElem_cons_zero, List.getElem_cons_succ, List.setIfInBounds_toArray, List.set_cons_zero, List.set_cons_succ]
        refine wpAnyH_ready (rs := [13]) (by kernel_rfl) (by simp) ?_
        refine AllReadyH.cons (o := _) rfl (fun K hK => ?_) AllReadyH.nil
        go_simp
        refine hK.out _ _ ((hT.mono (T := fun k => k = W1.heap.size ∨ k = W1.heap.size + 1 ∨ v7.ownBlock = some k ∨ v8.ownBlock = some k) (fun k _ hk => .inr (.inr hk))).setCell (p := ⟨W1.heap.size, 0, none⟩) (fun _ => .inl rfl) _) (fun hS => ?_)
        clear hK K
        try simp only [List.setIfInBounds_toArray, List.set_cons_zero, List.set_cons_succ]
        refine wpAnyH_ready (rs := [14]) (by kernel_rfl) (by simp) ?_
        refine AllReadyH.cons (o := _) rfl (fun K hK => ?_) AllReadyH.nil
        have t8b : (V12.setCell ⟨W1.heap.size, 0, none⟩ (.slice (some ⟨g3, 0, none⟩) (pre.length + 1) cap3)).cell? ⟨W1.heap.size + 1, 0, none⟩ = some v8 := (World.cell?_setCell_other _ _ _ _ (by simp)).trans t8
        go_simp
        refine hK.out _ _ (hS.setCell (p := ⟨W1.heap.size + 1, 0, none⟩) (fun _ => .inr (.inl rfl)) _) (fun hS => ?_)
        clear hK K
        try simp only [List.setIfInBounds_toArray, List.set_cons_zero, List.set_cons_succ]
        refine wpAnyH_done (by kernel_rfl) ?_ _
        refine ⟨hS.mono (fun k _ h => ?_), HN2.out.trans' hS (fun i hi h => ?_), ?_⟩
        · rcases h with h | h | h
          · exact .inl h
          · exact .inr (.inl h)
          · have h3 : base ≤ k := (HOWN.out _ h).1
            exact .inr (.inr (by have := HBAS.out; omega))
        · rcases h with h | h | h
          · exact .inr (.inl h)
          · exact .inr (.inr h)
          · have h3 : base ≤ i := (HOWN.out _ h).1
            have := HBASE.out
            have := HSZL.out
            omega
        · have hb := HBASE.out
          rw [HBAS.out]
          exact FInv.stored hrw t7 t8 z7 z8 (by omega)
      refine AllReadyH.cons (o := _) rfl (fun K hK => ?_) AllReadyH.nil
      have e8 : W2.drew.cell? ⟨W1.heap.size + 1, 0, none⟩ = some v8 := near_cell HC8.out hT (fun hk => by have h3 : base ≤ W1.heap.size + 1 := (HRW.out.lt hk).1; have := HBASE.out; omega)
      go_simp
      refine hK.out _ _ (hT.mono (fun k _ hk => .inr (.inr hk))) (fun hS => ?_)
      clear hK K
      try simp only [List.setIfInBounds_toArray, List.set_cons_zero, List.set_cons_succ]
      refine wpAnyH_ready (rs := [0, 2]) (by kernel_rfl) (by simp) ?_
      refine AllReadyH.cons (o := _) rfl (fun K hK => ?_) ?_
      · skip
        have e7 : W2.drew.cell? ⟨W1.heap.size, 0, none⟩ = some v7 := near_cell HC7.out hT (fun hk => by have h3 : base ≤ W1.heap.size := (HRW.out.lt hk).1; have := HBASE.out; omega)
        go_simp
        refine hK.out _ _ (hT.mono (fun k _ hk => .inr (.inr hk))) (fun hS => ?_)
        clear hK K
        try simp only [List.setIfInBounds_toArray, List.set_cons_zero]
        refine wpAnyH_ready (rs := [2]) (by kernel_rfl) (by simp) ?_
        refine AllReadyH.cons (o := _) rfl (fun K hK => ?_) AllReadyH.nil
        obtain ⟨V2, hV2⟩ : ∃ V2, (W2.alloc (.cells #[.int .i64 (x[0]?.getD 0), .int .i64 (x[1]?.getD 0), .int .i64 (x[2]?.getD 0), .int .i64 (x[3]?.getD 0), .int .i64 (x[4]?.getD 0), .int .i64 (x[5]?.getD 0), .int .i64 (x[6]?.getD 0), .int .i64 (x[7]?.getD 0), .int .i64 (x[8]?.getD 0)] 116)).drew = V2 := ⟨_, rfl⟩
        have hx2 : HitsAt V2 W2.heap.size x := by rw [← hV2]; exact hitsAt_box W2 x 116
        have hb2 : Below W2.heap.size W2 V2 := by rw [← hV2]; exact ((Below.refl _ _).alloc (Nat.le_refl _) _).drew
        have hT : Near (fun k => v7.ownBlock = some k ∨ v8.ownBlock = some k) W2 V2 := Near.of_below hb2 (fun k h1 h2 => by omega)
        have hrw := HRW.out.below hb2
        go_simp
        refine hK.out _ _ (hT.mono (fun k _ hk => .inr (.inr hk))) (fun hS => ?_)
        clear hK K
        try simp only [List.setIfInBounds_toArray, List.set_cons_zero, List.set_cons_succ]
        refine wpAnyH_ready (rs := [3]) (by kernel_rfl) (by simp) ?_
        refine AllReadyH.cons (o := _) rfl (fun K hK => ?_) AllReadyH.nil
        refine step_tru (by rfl) (.tmp 23) (.tmp 25) (by rfl) base v7 v8 pre (pre.map fun h => decide (part ≤ shareL l h)) x W2.heap.size hrw rfl rfl hx2 HPL.out (Nat.le_trans HBASE2 hT.size) ?_
        intro g3 cap3 V3 hrw hg3
        have hT := hT.grown hg3 (fun k hk _ => .inl hk)
        refine hK.out _ _ (hT.mono (fun k _ hk => .inr (.inr hk))) (fun hS => ?_)
        clear hK K
        try simp only [Act.put, List.getElem_toArray, List.getElem_cons_zero, List.getElem_cons_succ, List.setIfInBounds_toArray, List.set_cons_zero, List.set_cons_succ]
        refine wpAnyH_ready (rs := [8]) (by kernel_rfl) (by simp) ?_
        refine AllReadyH.cons (o := _) rfl (fun K hK => ?_) AllReadyH.nil
        go_simp
        refine (HSH.out V3 (HBW.out.trans (hT.below HBW.out.size (fun k hk hk2 => by have := (HRW.out.lt hk2).1; have := HBASE.out; have := HSZW.out; omega)))).mono ?_
        rintro e V8 ⟨rfl, hb8⟩
        have hrw := hrw.below hb8
        have hT := hT.trans (Near.of_below hb8 (fun k h1 h2 => by omega))
        refine hK.out _ _ (hT.mono (fun k _ hk => .inr (.inr hk))) (fun hS => ?_)
        clear hK K
        try simp only [List.setIfInBounds_toArray, List.set_cons_zero, List.set_cons_succ]
        refine wpAnyH_take (i := 10) (v := ?_) rfl (by kernel_rfl) (by kernel_rfl) (by kernel_rfl) (fun _ _ _ h => h) (Or.inl ⟨by rfl, fun V hV => ?_⟩) (by assumption) ?_
        rotate_left
        · go_simp
          try with_reducible rfl
        try simp only [Act.put, List.getElem_toArray, List.getElem_cons_zero, List.getElem_cons_succ, List.setIfInBounds_toArray, List.set_cons_zero, List.set_cons_succ]
        refine wpAnyH_ready (rs := [11]) (by kernel_rfl) (by simp) ?_
        refine AllReadyH.cons (o := _) rfl (fun K hK => ?_) AllReadyH.nil
        obtain ⟨V11, hV11⟩ : ∃ V11, V8.alloc (.cells #[.bool (decide (part ≤ shareL l x))] 4) = V11 := ⟨_, rfl⟩
        have hx11 : V11.cell? ⟨V8.heap.size, 0, none⟩ = some (.bool (decide (part ≤ shareL l x))) := by rw [← hV11]; exact cell_box V8 _ 4 0 _ rfl
        have hb11 : Below V8.heap.size V8 V11 := by rw [← hV11]; exact (Below.refl _ _).alloc (Nat.le_refl _) _
        have hrw := hrw.below hb11
        have hT := hT.trans (Near.of_below hb11 (fun k h1 h2 => by omega))
        go_simp
        refine hK.out _ _ (hT.mono (fun k _ hk => .inr (.inr hk))) (fun hS => ?_)
        clear hK K
        try simp only [List.setIfInBounds_toArray, List.set_cons_zero, List.set_cons_succ]
        refine wpAnyH_ready (rs := [12]) (by kernel_rfl) (by simp) ?_
        refine AllReadyH.cons (o := _) rfl (fun K hK => ?_) AllReadyH.nil
        refine step_bool (by rfl) (.tmp 27) (.tmp 34) (by rfl) base (.slice (some ⟨g3, 0, none⟩) (pre.length + 1) cap3) v8 (pre ++ [x]) (pre.map fun h => decide (part ≤ shareL l h)) (decide (part ≤ shareL l x)) V8.heap.size hrw rfl rfl hx11 (by rw [List.length_map]; exact HPL.out) (Nat.le_trans HBASE2 hT.size) ?_
        intro g12 cap12 V12 hrw hg12
        have hT := hT.grown hg12 (fun k hk _ => .inr hk)
        have t7 := near_cell HC7.out hT (fun hk => by have h3 : base ≤ W1.heap.size := (HRW.out.lt hk).1; have := HBASE.out; omega)
        have z7 := near_frozen HC7.out HF7.out hT (fun hk => by have h3 : base ≤ W1.heap.size := (HRW.out.lt hk).1; have := HBASE.out; omega)
        have t8 := near_cell HC8.out hT (fun hk => by have h3 : base ≤ W1.heap.size + 1 := (HRW.out.lt hk).1; have := HBASE.out; omega)
        have z8 := near_frozen HC8.out HF8.out hT (fun hk => by have h3 : base ≤ W1.heap.size + 1 := (HRW.out.lt hk).1; have := HBASE.out; omega)
        refine hK.out _ _ (hT.mono (fun k _ hk => .inr (.inr hk))) (fun hS => ?_)
        clear hK K
        try simp only [Act.put, List.getElem_toArray, List.getElem_cons_zero, List.getElem_cons_succ, List.setIfInBounds_toArray, List.set_cons_zero, List.set_cons_succ]
        refine wpAnyH_ready (rs := [13]) (by kernel_rfl) (by simp) ?_
        refine AllReadyH.cons (o := _) rfl (fun K hK => ?_) AllReadyH.nil
        go_simp
        refine hK.out _ _ ((hT.mono (T := fun k => k = W1.heap.size ∨ k = W1.heap.size + 1 ∨ v7.ownBlock = some k ∨ v8.ownBlock = some k) (fun k _ hk => .inr (.inr hk))).setCell (p := ⟨W1.heap.size, 0, none⟩) (fun _ => .inl rfl) _) (fun hS => ?_)
        clear hK K
        try simp only [List.setIfInBounds_toArray, List.set_cons_zero, List.set_cons_succ]
        refine wpAnyH_ready (rs := [14]) (by kernel_rfl) (by simp) ?_
        refine AllReadyH.cons (o := _) rfl (fun K hK => ?_) AllReadyH.nil
        have t8b : (V12.setCell ⟨W1.heap.size, 0, none⟩ (.slice (some ⟨g3, 0, none⟩) (pre.length + 1) cap3)).cell? ⟨W1.heap.size + 1, 0, none⟩ = some v8 := (World.cell?_setCell_other _ _ _ _ (by simp)).trans t8
        go_simp
        refine hK.out _ _ (hS.setCell (p := ⟨W1.heap.size + 1, 0, none⟩) (fun _ => .inr (.inl rfl)) _) (fun hS => ?_)
        clear hK K
        try simp only [List.setIfInBounds_toArray, List.set_cons_zero, List.set_cons_succ]
        refine wpAnyH_done (by kernel_rfl) ?_ _
        refine ⟨hS.mono (fun k _ h => ?_), HN2.out.trans' hS (fun i hi h => ?_), ?_⟩
        · rcases h with h | h | h
          · exact .inl h
          · exact .inr (.inl h)
          · have h3 : base ≤ k := (HOWN.out _ h).1
            exact .inr (.inr (by have := HBAS.out; omega))
        · rcases h with h | h | h
          · exact .inr (.inl h)
          · exact .inr (.inr h)
          · have h3 : base ≤ i := (HOWN.out _ h).1
            have := HBASE.out
            have := HSZL.out
            omega
        · have hb := HBASE.out
          rw [HBAS.out]
          exact FInv.stored hrw t7 t8 z7 z8 (by omega)
      refine AllReadyH.cons (o := _) rfl (fun K hK => ?_) AllReadyH.nil
      obtain ⟨V2, hV2⟩ : ∃ V2, (W2.alloc (.cells #[.int .i64 (x[0]?.getD 0), .int .i64 (x[1]?.getD 0), .int .i64 (x[2]?.getD 0), .int .i64 (x[3]?.getD 0), .int .i64 (x[4]?.getD 0), .int .i64 (x[5]?.getD 0), .int .i64 (x[6]?.getD 0), .int .i64 (x[7]?.getD 0), .int .i64 (x[8]?.getD 0)] 116)).drew = V2 := ⟨_, rfl⟩
      have hx2 : HitsAt V2 W2.heap.size x := by rw [← hV2]; exact hitsAt_box W2 x 116
      have hb2 : Below W2.heap.size W2 V2 := by rw [← hV2]; exact ((Below.refl _ _).alloc (Nat.le_refl _) _).drew
      have hT : Near (fun k => v7.ownBlock = some k ∨ v8.ownBlock = some k) W2 V2 := Near.of_below hb2 (fun k h1 h2 => by omega)
      have hrw := HRW.out.below hb2
      go_simp
      refine hK.out _ _ (hT.mono (fun k _ hk => .inr (.inr hk))) (fun hS => ?_)
      clear hK K
      try simp only [List.setIfInBounds_toArray, List.set_cons_zero, List.set_cons_succ]
      refine wpAnyH_ready (rs := [0]) (by kernel_rfl) (by simp) ?_
      refine AllReadyH.cons (o := _) rfl (fun K hK => ?_) AllReadyH.nil
      have e7 : V2.cell? ⟨W1.heap.size, 0, none⟩ = some v7 := near_cell HC7.out hT (fun hk => by have h3 : base ≤ W1.heap.size := (HRW.out.lt hk).1; have := HBASE.out; omega)
      go_simp
      refine hK.out _ _ (hT.mono (fun k _ hk => .inr (.inr hk))) (fun hS => ?_)
      clear hK K
      try simp only [List.setIfInBounds_toArray, List.set_cons_zero]
      refine wpAnyH_ready (rs := [3]) (by kernel_rfl) (by simp) ?_
      refine AllReadyH.cons (o := _) rfl (fun K hK => ?_) AllReadyH.nil
      refine step_tru (by rfl) (.tmp 23) (.tmp 25) (by rfl) base v7 v8 pre (pre.map fun h => decide (part ≤ shareL l h)) x W2.heap.size hrw rfl rfl hx2 HPL.out (Nat.le_trans HBASE2 hT.size) ?_
      intro g3 cap3 V3 hrw hg3
      have hT := hT.grown hg3 (fun k hk _ => .inl hk)
      refine hK.out _ _ (hT.mono (fun k _ hk => .inr (.inr hk))) (fun hS => ?_)
      clear hK K
      try simp only [Act.put, List.getElem_toArray, List.getElem_cons_zero, List.getElem_cons_succ, List.setIfInBounds_toArray, List.set_cons_zero, List.set_cons_succ]
      refine wpAnyH_ready (rs := [8]) (by kernel_rfl) (by simp) ?_
      refine AllReadyH.cons (o := _) rfl (fun K hK => ?_) AllReadyH.nil
      go_simp
      refine (HSH.out V3 (HBW.out.trans (hT.below HBW.out.size (fun k hk hk2 => by have := (HRW.out.lt hk2).1; have := HBASE.out; have := HSZW.out; omega)))).mono ?_
      rintro e V8 ⟨rfl, hb8⟩
      have hrw := hrw.below hb8
      have hT := hT.trans (Near.of_below hb8 (fun k h1 h2 => by omega))
      refine hK.out _ _ (hT.mono (fun k _ hk => .inr (.inr hk))) (fun hS => ?_)
      clear hK K
      try simp only [List.setIfInBounds_toArray, List.set_cons_zero, List.set_cons_succ]
      refine wpAnyH_take (i := 10) (v := ?_) rfl (by kernel_rfl) (by kernel_rfl) (by kernel_rfl) (fun _ _ _ h => h) (Or.inl ⟨by rfl, fun V hV => ?_⟩) (by assumption) ?_
      rotate_left
      · go_simp
        try with_reducible rfl
      try simp only [Act.put, List.getElem_toArray, List.getElem_cons_zero, List.getElem_cons_succ, List.setIfInBounds_toArray, List.set_cons_zero, List.set_cons_succ]
      refine wpAnyH_ready (rs := [11]) (by kernel_rfl) (by simp) ?_
      refine AllReadyH.cons (o := _) rfl (fun K hK => ?_) AllReadyH.nil
      obtain ⟨V11, hV11⟩ : ∃ V11, V8.alloc (.cells #[.bool (decide (part ≤ shareL l x))] 4) = V11 := ⟨_, rfl⟩
      have hx11 : V11.cell? ⟨V8.heap.size, 0, none⟩ = some (.bool (decide (part ≤ shareL l x))) := by rw [← hV11]; exact cell_box V8 _ 4 0 _ rfl
      have hb11 : Below V8.heap.size V8 V11 := by rw [← hV11]; exact (Below.refl _ _).alloc (Nat.le_refl _) _
      have hrw := hrw.below hb11
      have hT := hT.trans (Near.of_below hb11 (fun k h1 h2 => by omega))
      go_simp
      refine hK.out _ _ (hT.mono (fun k _ hk => .inr (.inr hk))) (fun hS => ?_)
      clear hK K
      try simp only [List.setIfInBounds_toArray, List.set_cons_zero, List.set_cons_succ]
      refine wpAnyH_ready (rs := [12]) (by kernel_rfl) (by simp) ?_
      refine AllReadyH.cons (o := _) rfl (fun K hK => ?_) AllReadyH.nil
      refine step_bool (by rfl) (.tmp 27) (.tmp 34) (by rfl) base (.slice (some ⟨g3, 0, none⟩) (pre.length + 1) cap3) v8 (pre ++ [x]) (pre.map fun h => decide (part ≤ shareL l h)) (decide (part ≤ shareL l x)) V8.heap.size hrw rfl rfl hx11 (by rw [List.length_map]; exact HPL.out) (Nat.le_trans HBASE2 hT.size) ?_
      intro g12 cap12 V12 hrw hg12
      have hT := hT.grown hg12 (fun k hk _ => .inr hk)
      have t7 := near_cell HC7.out hT (fun hk => by have h3 : base ≤ W1.heap.size := (HRW.out.lt hk).1; have := HBASE.out; omega)
      have z7 := near_frozen HC7.out HF7.out hT (fun hk => by have h3 : base ≤ W1.heap.size := (HRW.out.lt hk).1; have := HBASE.out; omega)
      have t8 := near_cell HC8.out hT (fun hk => by have h3 : base ≤ W1.heap.size + 1 := (HRW.out.lt hk).1; have := HBASE.out; omega)
      have z8 := near_frozen HC8.out HF8.out hT (fun hk => by have h3 : base ≤ W1.heap.size + 1 := (HRW.out.lt hk).1; have := HBASE.out; omega)
      refine hK.out _ _ (hT.mono (fun k _ hk => .inr (.inr hk))) (fun hS => ?_)
      clear hK K
      try simp only [Act.put, List.getElem_toArray, List.getElem_cons_zero, List.getElem_cons_succ, List.setIfInBounds_toArray, List.set_cons_zero, List.set_cons_succ]
      refine wpAnyH_ready (rs := [13]) (by kernel_rfl) (by simp) ?_
      refine AllReadyH.cons (o := _) rfl (fun K hK => ?_) AllReadyH.nil
      go_simp
      refine hK.out _ _ ((hT.mono (T := fun k => k = W1.heap.size ∨ k = W1.heap.size + 1 ∨ v7.ownBlock = some k ∨ v8.ownBlock = some k) (fun k _ hk => .inr (.inr hk))).setCell (p := ⟨W1.heap.size, 0, none⟩) (fun _ => .inl rfl) _) (fun hS => ?_)
      clear hK K
      try simp only [List.setIfInBounds_toArray, List.set_cons_zero, List.set_cons_succ]
      refine wpAnyH_ready (rs := [14]) (by kernel_rfl) (by simp) ?_
      refine AllReadyH.cons (o := _) rfl (fun K hK => ?_) AllReadyH.nil
      have t8b : (V12.setCell ⟨W1.heap.size, 0, none⟩ (.slice (some ⟨g3, 0, none⟩) (pre.length + 1) cap3)).cell? ⟨W1.heap.size + 1, 0, none⟩ = some v8 := (World.cell?_setCell_other _ _ _ _ (by simp)).trans t8
      go_simp
      refine hK.out _ _ (hS.setCell (p := ⟨W1.heap.size + 1, 0, none⟩) (fun _ => .inr (.inl rfl)) _) (fun hS => ?_)
      clear hK K
      try simp only [List.setIfInBounds_toArray, List.set_cons_zero, List.set_cons_succ]
      refine wpAnyH_done (by kernel_rfl) ?_ _
      refine ⟨hS.mono (fun k _ h => ?_), HN2.out.trans' hS (fun i hi h => ?_), ?_⟩
      · rcases h with h | h | h
        · exact .inl h
        · exact .inr (.inl h)
        · have h3 : base ≤ k := (HOWN.out _ h).1
          exact .inr (.inr (by have := HBAS.out; omega))
      · rcases h with h | h | h
        · exact .inr (.inl h)
        · exact .inr (.inr h)
        · have h3 : base ≤ i := (HOWN.out _ h).1
          have := HBASE.out
          have := HSZL.out
          omega
      · have hb := HBASE.out
        rw [HBAS.out]
        exact FInv.stored hrw t7 t8 z7 z8 (by omega)
    case done =>
      rintro W ⟨hnW, hFI⟩ hK hsz
      obtain ⟨v7, v8, c7, c8, f7, f8, hrw⟩ := hFI.ex
      obtain ⟨p7, k7, rfl⟩ := row_slice hrw.t
      obtain ⟨p8, k8, rfl⟩ := row_slice hrw.b
      rw [List.length_map] at hrw c8
      obtain ⟨T, hT⟩ : ∃ T, genP (okP cs [] cc sm) l 0 [] = T := ⟨_, rfl⟩
      have hTN : T.length ≤ 2000 := by
        have h1 := genP_count (okP cs [] cc sm) l 0 [] HSB.out
        have h2 := prodL_many HSB.out (fault0 HPF.out.1).2.2.2.2
        rw [hT] at h1
        omega
      have HFB : Hid (∀ X, decG X (T.zip (T.map fun h => decide (part ≤ shareL l h))) (fun _ => none) = fewB cc sm part l cs X) := fun X => by rw [fewB, hT]
      have HFA : Hid (fewB cc sm part l cs (allFrom l.length 0) = true) := by
        have := few_all (cc := cc) (sm := sm) (part := part) (cs := cs) (l := l) (by have := HN9.out; have := HL.out.1; omega)
        exact this
      have HTB : Hid (∀ x ∈ T, ∀ j, j < 9 → 0 ≤ x[j]?.getD 0 ∧ x[j]?.getD 0 ≤ 9) := by
        intro x hx j hj
        have hxb := (listed_bd (genP_listed (by rw [hT]; exact hx : x ∈ genP (okP cs [] cc sm) l 0 [])) HSB.out).2
        by_cases h : j < x.length
        · exact hxb _ (getD_mem h)
        · rw [List.getElem?_eq_none (by omega)]; simp
      rw [hT] at hrw c7 c8
      have hbW : Below w.heap.size w W := (HBX.out.below.trans (hbL.mono (by omega))).trans (hnW.below (HBX.out.below.trans (hbL.mono (by omega))).size (fun k hk e => by omega))
      have hboxW : ∀ k v, #[.int .i64 r, .int .i64 cc, .slice p n c, .int .i64 sm, .slice q m d][k]? = some v → W.cell? ⟨w.heap.size, k, none⟩ = some v := fun k v hk => near_cell ((hbL.cell (p := ⟨w.heap.size, k, none⟩) (by show w.heap.size < _; omega)).trans (HBX.out.cell1 k hk)) hnW (by show ¬ (w.heap.size = _ ∨ w.heap.size = _ ∨ w.heap.size = _); omega)
      have HBW := hid hbW
      have HBOX := hid hboxW
      have HRW := hid hrw
      have HK := hid hK
      have HSZ := hid hsz
      have HSZL := hid hszL
      have HTT := hid hT
      have HTN := hid hTN
      clear hbL hszL hz3 hs1 hnW hFI f7 f8 hrw hK hsz hbW hboxW hWL hW3 hT hTN
      by_cases hTe : T.length = 0
      · have hTe2 : T = [] := List.length_eq_zero_iff.1 hTe
        have hTi : (((T.length : Nat) : Int) == 0) = true := by simp [hTe]
        have HTE := hid hTe2
        have HER2 : Hid (er = 9) := by show _ = _; rw [← HER.out, if_pos HF.out, HTT.out, if_pos hTe2]
        have HPPN : Hid (PP []) := by
          rw [← HPP.out]
          show ite _ _ _
          rw [if_neg (fun h => h.2 (by rw [HTT.out]; exact hTe2))]
        clear hTe hTe2
        gi_wp2
        simp only [Exit.noGoto]
        refine ⟨by simp, .inl ⟨_, _, rfl, run_takeDeferred HK.out, ?_⟩⟩
        refine ⟨.tuple #[.slice none 0 0, .int .i64 9], by simp [results, Try.f23, go_sem], none, 0, 0, [], by rw [HER2.out], IntsAt.nil _, HPPN.out, HBW.out.trans ((Near.putObj _ _).below HBW.out.size (fun k hk e => by have := HSZL.out; have := HSZ1.out; omega))⟩
      · have hTi : (((T.length : Nat) : Int) == 0) = false := by simp; exact fun h => hTe (by rw [h]; rfl)
        have HER2 : Hid (er = 0) := by show _ = _; rw [← HER.out, if_pos HF.out, HTT.out, if_neg (fun h => hTe (by rw [h]; rfl))]
        have HPPN : Hid (∀ X, First (fewB cc sm part l cs) l.length X → PP X) := by
          intro X hX
          rw [← HPP.out]
          show ite _ _ _
          rw [if_pos ⟨HF.out, fun h => hTe (by rw [← HTT.out, h]; rfl)⟩]
          exact hX
        have hmf : ∀ (fn : Fn) (first cap : Array Value) (w : World), (Instr.makeFunc fn first cap).run Try.prog w = .ok (.func fn first cap) w := fun _ _ _ _ => rfl
        obtain ⟨W5, hW5⟩ : ∃ W5, W.alloc (.cells #[.slice none 0 0] 22) = W5 := ⟨_, rfl⟩
        have hb5 : Below W.heap.size W W5 := by rw [← hW5]; exact (Below.refl _ _).alloc (Nat.le_refl _) _
        have HFREE : Hid (Free W5 W.heap.size) := by rw [← hW5]; exact ⟨_, cell_box W _ 22 0 _ rfl, frozen_new W _ 22 0 rfl⟩
        have hszL := HSZL.out
        have hs1 := HSZ1.out
        have hszW := HSZ.out
        have hrw5 := HRW.out.below hb5
        have HDB : Hid (DBox W5 W.heap.size W1.heap.size (W1.heap.size + 1) p7 T.length k7 T p8 T.length k8 (T.map fun h => decide (part ≤ shareL l h))) := by
          refine ⟨(hb5.cell (p := ⟨W1.heap.size, 0, none⟩) (by show W1.heap.size < _; omega)).trans c7, (hb5.cell (p := ⟨W1.heap.size + 1, 0, none⟩) (by show W1.heap.size + 1 < _; omega)).trans c8, tru_of rfl hrw5.t, bools_of (by rw [List.length_map]) (by have h9 := hrw5.b; rw [List.length_map] at h9; exact h9), by omega, by omega, fun a ha _ => ?_, fun a ha _ => ?_⟩
          · have := (HRW.out.lt (g := a.block) (.inl (by rw [ha]; rfl))).2; omega
          · have := (HRW.out.lt (g := a.block) (.inr (by rw [ha]; rfl))).2; omega
        have HBOX5 : Hid (∀ k v, #[.int .i64 r, .int .i64 cc, .slice p n c, .int .i64 sm, .slice q m d][k]? = some v → ∀ V, Near (fun k => k = W.heap.size) W5 V → V.cell? ⟨w.heap.size, k, none⟩ = some v) := fun k v hk V hV => near_cell ((hb5.cell (World.block_lt_of_cell? _ _ (HBOX.out k v hk))).trans (HBOX.out k v hk)) hV (by show w.heap.size ≠ _; omega)
        have HK5 : Hid (∀ V, Near (fun k => k = W.heap.size) W5 V → V.heap[WL.heap.size]? = some (.deferred (some []))) := fun V hV => (hV.block _ (by have := hb5.size; omega) (by omega)).trans ((hb5.block _ (by omega)).trans HK.out)
        have HB5 : Hid (Below w.heap.size w W5) := HBW.out.trans (hb5.mono HBW.out.size)
        have HNL : Hid (n = l.length) := HL.out.1
        have HWLT : Hid (WL.heap.size < W.heap.size ∧ w.heap.size + 2 ≤ WL.heap.size) := ⟨by omega, by omega⟩
        have g0 := HBOX5.out 0 (.int .i64 r) rfl W5 (Near.refl _ _)
        have g1 := HBOX5.out 1 (.int .i64 cc) rfl W5 (Near.refl _ _)
        have g2 := HBOX5.out 2 (.slice p n c) rfl W5 (Near.refl _ _)
        clear hszL hs1 hszW hrw5 hb5 c8
        gi_wp2
        refine wpIn_label ?_
        gi_wp2
        refine ⟨trivial, ?_⟩
        gi_at_call 77
        refine ((callsIn_wide (n := 8)).2 (places_any r cc p n c _)).mono ?_
        rintro e W6 ⟨rfl, hb6⟩
        have HN6 : Hid (Near (fun k => k = W.heap.size) W5 W6) := Near.of_below hb6 (fun k h1 h2 => by have := World.block_lt_of_cell? _ _ (HFREE.out.choose_spec.1); omega)
        have HF6 := hid (HFREE.out.below hb6)
        clear hb6 g0 g1 g2
        gi_wp2
        refine wpIn_wide.2 ?_
        go_loopw [44] (fun x wr => ∃ k : Nat, k ≤ n + 1 ∧ x = .int .i64 k ∧ Near (fun k => k = W.heap.size) W5 wr ∧ Free wr W.heap.size ∧ ∀ j, j < k → ∀ y ∈ combos n j 0, fewB cc sm part l cs y = false) (fun x _ => n + 1 - (intOf x).toNat)
        case atStart => exact ⟨0, Nat.zero_le _, rfl, HN6.out, HF6.out, fun j hj => by omega⟩
        case round =>
          obtain ⟨k, hk, rfl, hnr, hfr, hno⟩ := hrel
          have HNR := hid hnr
          have HFR := hid hfr
          have HNO := hid hno
          have g0 := HBOX5.out 0 (.int .i64 r) rfl wr hnr
          have g1 := HBOX5.out 1 (.int .i64 cc) rfl wr hnr
          have g2 := HBOX5.out 2 (.slice p n c) rfl wr hnr
          clear hnr hfr hno
          by_cases hlt : k < n + 1
          · have hltI : (k : Int) < (n : Int) + 1 := by omega
            obtain ⟨res, hres⟩ : ∃ res, (combos n k 0).find? (fewB cc sm part l cs) = res := ⟨_, rfl⟩
            have HRES := hid hres
            clear hres
            go_wp2_with fail
            refine (places_any r cc p n c _).mono ?_
            rintro e W7 ⟨rfl, hb7⟩
            have HN7 : Hid (Near (fun k => k = W.heap.size) W5 W7) := HNR.out.trans' (Near.of_below (S := fun k => wr.heap.size ≤ k) hb7 (fun k h1 h2 => h2)) (fun i hi hT => by have := HNR.out.size; omega)
            have HF7 := hid (HFR.out.below hb7)
            have HCALL : Hid (Calls Try.prog 78 #[.int .i64 n, .int .i64 k, .func (.func 75) #[] #[.pointer (some ⟨W.heap.size, 0, none⟩), .pointer (some ⟨W1.heap.size, 0, none⟩), .pointer (some ⟨W1.heap.size + 1, 0, none⟩)]] W7 (LPost W.heap.size W7 res)) := by
              show Calls _ _ _ _ _
              rw [← HRES.out]
              refine lists_75 (fun V => Near (fun k => k = W.heap.size) W5 V) (fewB cc sm part l cs) n W.heap.size W.heap.size W1.heap.size (W1.heap.size + 1) (fun W1 W2 h1 h2 => h1.trans h2) hn ?_ k (by omega) W7 HN7.out HF7.out
              intro X px kx cx V hI hF hP hkx hXl hXi
              rw [← HFB.out X]
              exact fewest1_any W.heap.size W1.heap.size (W1.heap.size + 1) p7 T.length k7 T p8 T.length k8 _ X px kx cx V (HDB.out.near hI) hF hP hkx (fun x hx => by have := incr_mem hXi x hx; have := HN9.out; omega) HTB.out (by rw [List.length_map]) (by have := HTN.out; omega)
            clear hb7 g0 g1 g2
            go_wp2_with fail
            refine HCALL.out.mono ?_
            rintro e W8 ⟨rfl, hn8, hf8, hx8⟩
            have HN8 := hid (HN7.out.trans hn8)
            have HF8' := hid hf8
            have HX8 := hid hx8
            clear hn8 hf8 hx8
            cases res with
            | none =>
              go_wp2_with fail
              go_roundw
              case rel =>
                refine ⟨k + 1, by omega, by go_num, HN8.out, HF8'.out, fun j hj y hy => ?_⟩
                by_cases e : j = k
                · subst e
                  have := List.find?_eq_none.1 HRES.out y hy
                  simpa using this
                · exact HNO.out j (by omega) y hy
              case measure => simp [intOf]; omega
            | some X =>
              obtain ⟨pf, kf, cf, hcf, hif⟩ := HX8.out X rfl
              have HIF := hid hif
              clear hif
              go_wp2_with fail
              gi_wp2
              simp only [Exit.noGoto]
              have hKd := HK5.out _ HN8.out
              have hw2 := HWLT.out.2
              refine ⟨by simp, .inl ⟨_, _, rfl, run_takeDeferred hKd, ?_⟩⟩
              refine ⟨.tuple #[.slice pf kf cf, .int .i64 0], by simp [results, Try.f23, go_sem], pf, kf, cf, X, by rw [HER2.out], ?_, HPPN.out X (by rw [← HNL.out]; exact first_of HNO.out HRES.out), ?_⟩
              · refine ⟨HIF.out.1, fun i hi => ?_⟩
                obtain ⟨b, off, e, hc⟩ := HIF.out.2 i hi
                refine ⟨b, off, e, near_cell hc (Near.putObj _ _) ?_⟩
                show b ≠ WL.heap.size
                rintro rfl
                simp [World.cell?, hKd] at hc
              · exact (HB5.out.trans (HN8.out.below HB5.out.size (fun k hk e => by have := HWLT.out; omega))).trans ((Near.putObj _ _).below (HB5.out.trans (HN8.out.below HB5.out.size (fun k hk e => by have := HWLT.out; omega))).size (fun k hk e => by omega))
          · exfalso
            have h1 := HNO.out n (by omega) (allFrom n 0) ((mem_combos n n 0 _).2 ⟨by simp [allFrom], allFrom_incr n _ 0 rfl⟩)
            have h2 := HFA.out
            rw [← HNL.out, h1] at h2
            cases h2
    case stop => intro _ _ _ _ h; exact h.elim
  · have HPPN : Hid (PP []) := by
      rw [← HPP.out]
      show ite _ _ _
      rw [if_neg (fun h => hf h.1)]
    have HER2 : Hid (er = partE r cc l sm cs part) := by show _ = _; rw [← HER.out, if_neg hf]
    generalize partE r cc l sm cs part = fl at *
    have hfb : (fl == 0) = false := by simp [hf]
    refine callsIn_of_wp_marks Try.func23 rfl trivial ?_ rfl
    simp only [Try.ntmps23, List.size_toArray, List.length_cons, List.length_nil, Nat.reduceAdd, Nat.reduceSub, Array.replicate_succ, Array.replicate_zero, List.push_toArray, List.append_toArray, List.nil_append, List.cons_append]
    gi_wp2
    refine wpIn_scope_straight ?_
    gi_wp2
    refine ⟨trivial, ?_⟩
    gi_at_call 69
    refine (HC.out _ ?_).mono ?_
    · exact ((Below.refl _ _).alloc (Nat.le_refl _) _).alloc (by simp) _
    rintro e W1 ⟨rfl, hb⟩
    have HB1 : Hid (Boxed2 w #[.int .i64 r, .int .i64 cc, .slice p n c, .int .i64 sm, .slice q m d] 36 #[.int .i64 part] 3 W1) := hb.mono (by simp)
    clear hb hf
    gi_wp2
    simp only [Exit.noGoto]
    exact ⟨.tuple #[.slice none 0 0, .int .i64 fl], by simp [results, Try.f23, go_sem], none, 0, 0, [], by rw [HER2.out], IntsAt.nil _, HPPN.out, HB1.out.below⟩
end Go.Proofs.Ytlicijnaacdceaa
