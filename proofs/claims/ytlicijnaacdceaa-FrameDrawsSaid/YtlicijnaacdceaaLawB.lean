/- The laws: helpers -/
import Derived.Test.YtlicijnaacdceaaProZF
import Derived.Test.YtlicijnaacdceaaProZE
import Derived.Test.YtlicijnaacdceaaRefG
import Derived.Laws.EntriesVeiled
/- The laws' examples: strip, lot, torn, between; an owned slice of counts. -/
namespace Go.Proofs.Ytlicijnaacdceaa
open Go.RowKit

theorem set4 {W : World} {b : Nat} {u0 u1 u2 u3 : Value} (h0 : W.cell? ⟨b, 0, none⟩ = some u0) (h1 : W.cell? ⟨b, 1, none⟩ = some u1) (h2 : W.cell? ⟨b, 2, none⟩ = some u2) (h3 : W.cell? ⟨b, 3, none⟩ = some u3) (x0 x1 x2 x3 : Value) : ((((W.setCell ⟨b, 0, none⟩ x0).setCell ⟨b, 1, none⟩ x1).setCell ⟨b, 2, none⟩ x2).setCell ⟨b, 3, none⟩ x3).cell? ⟨b, 0, none⟩ = some x0 ∧ ((((W.setCell ⟨b, 0, none⟩ x0).setCell ⟨b, 1, none⟩ x1).setCell ⟨b, 2, none⟩ x2).setCell ⟨b, 3, none⟩ x3).cell? ⟨b, 1, none⟩ = some x1 ∧ ((((W.setCell ⟨b, 0, none⟩ x0).setCell ⟨b, 1, none⟩ x1).setCell ⟨b, 2, none⟩ x2).setCell ⟨b, 3, none⟩ x3).cell? ⟨b, 2, none⟩ = some x2 ∧ ((((W.setCell ⟨b, 0, none⟩ x0).setCell ⟨b, 1, none⟩ x1).setCell ⟨b, 2, none⟩ x2).setCell ⟨b, 3, none⟩ x3).cell? ⟨b, 3, none⟩ = some x3 :=
  ⟨(by rw [World.cell?_setCell_other _ _ _ _ (by simp)]; rw [World.cell?_setCell_other _ _ _ _ (by simp)]; rw [World.cell?_setCell_other _ _ _ _ (by simp)]; exact World.cell?_setCell_same' _ _ _ (by rw [h0]; rfl)), (by rw [World.cell?_setCell_other _ _ _ _ (by simp)]; rw [World.cell?_setCell_other _ _ _ _ (by simp)]; exact World.cell?_setCell_same' _ _ _ (by rw [World.cell?_setCell_other _ _ _ _ (by simp), h1]; rfl)), (by rw [World.cell?_setCell_other _ _ _ _ (by simp)]; exact World.cell?_setCell_same' _ _ _ (by rw [World.cell?_setCell_other _ _ _ _ (by simp), World.cell?_setCell_other _ _ _ _ (by simp), h2]; rfl)), (by  exact World.cell?_setCell_same' _ _ _ (by rw [World.cell?_setCell_other _ _ _ _ (by simp), World.cell?_setCell_other _ _ _ _ (by simp), World.cell?_setCell_other _ _ _ _ (by simp), h3]; rfl))⟩
theorem set5 {W : World} {b : Nat} {u0 u1 u2 u3 u4 : Value} (h0 : W.cell? ⟨b, 0, none⟩ = some u0) (h1 : W.cell? ⟨b, 1, none⟩ = some u1) (h2 : W.cell? ⟨b, 2, none⟩ = some u2) (h3 : W.cell? ⟨b, 3, none⟩ = some u3) (h4 : W.cell? ⟨b, 4, none⟩ = some u4) (x0 x1 x2 x3 x4 : Value) : (((((W.setCell ⟨b, 0, none⟩ x0).setCell ⟨b, 1, none⟩ x1).setCell ⟨b, 2, none⟩ x2).setCell ⟨b, 3, none⟩ x3).setCell ⟨b, 4, none⟩ x4).cell? ⟨b, 0, none⟩ = some x0 ∧ (((((W.setCell ⟨b, 0, none⟩ x0).setCell ⟨b, 1, none⟩ x1).setCell ⟨b, 2, none⟩ x2).setCell ⟨b, 3, none⟩ x3).setCell ⟨b, 4, none⟩ x4).cell? ⟨b, 1, none⟩ = some x1 ∧ (((((W.setCell ⟨b, 0, none⟩ x0).setCell ⟨b, 1, none⟩ x1).setCell ⟨b, 2, none⟩ x2).setCell ⟨b, 3, none⟩ x3).setCell ⟨b, 4, none⟩ x4).cell? ⟨b, 2, none⟩ = some x2 ∧ (((((W.setCell ⟨b, 0, none⟩ x0).setCell ⟨b, 1, none⟩ x1).setCell ⟨b, 2, none⟩ x2).setCell ⟨b, 3, none⟩ x3).setCell ⟨b, 4, none⟩ x4).cell? ⟨b, 3, none⟩ = some x3 ∧ (((((W.setCell ⟨b, 0, none⟩ x0).setCell ⟨b, 1, none⟩ x1).setCell ⟨b, 2, none⟩ x2).setCell ⟨b, 3, none⟩ x3).setCell ⟨b, 4, none⟩ x4).cell? ⟨b, 4, none⟩ = some x4 :=
  ⟨(by rw [World.cell?_setCell_other _ _ _ _ (by simp)]; rw [World.cell?_setCell_other _ _ _ _ (by simp)]; rw [World.cell?_setCell_other _ _ _ _ (by simp)]; rw [World.cell?_setCell_other _ _ _ _ (by simp)]; exact World.cell?_setCell_same' _ _ _ (by rw [h0]; rfl)), (by rw [World.cell?_setCell_other _ _ _ _ (by simp)]; rw [World.cell?_setCell_other _ _ _ _ (by simp)]; rw [World.cell?_setCell_other _ _ _ _ (by simp)]; exact World.cell?_setCell_same' _ _ _ (by rw [World.cell?_setCell_other _ _ _ _ (by simp), h1]; rfl)), (by rw [World.cell?_setCell_other _ _ _ _ (by simp)]; rw [World.cell?_setCell_other _ _ _ _ (by simp)]; exact World.cell?_setCell_same' _ _ _ (by rw [World.cell?_setCell_other _ _ _ _ (by simp), World.cell?_setCell_other _ _ _ _ (by simp), h2]; rfl)), (by rw [World.cell?_setCell_other _ _ _ _ (by simp)]; exact World.cell?_setCell_same' _ _ _ (by rw [World.cell?_setCell_other _ _ _ _ (by simp), World.cell?_setCell_other _ _ _ _ (by simp), World.cell?_setCell_other _ _ _ _ (by simp), h3]; rfl)), (by  exact World.cell?_setCell_same' _ _ _ (by rw [World.cell?_setCell_other _ _ _ _ (by simp), World.cell?_setCell_other _ _ _ _ (by simp), World.cell?_setCell_other _ _ _ _ (by simp), World.cell?_setCell_other _ _ _ _ (by simp), h4]; rfl))⟩

set_option maxRecDepth 20000 in
set_option maxHeartbeats 1000000 in
theorem between_any (lo hi : Int) (w : World) : Calls Try.prog 48 #[.int .i64 lo, .int .i64 hi] w fun e w' => e = .returned (.agg #[.int .i64 lo, .int .i64 hi]) ∧ Below w.heap.size w w' := by
  obtain ⟨W, hW⟩ : ∃ W, w.alloc (.cells #[.int .i64 lo, .int .i64 hi] 62) = W := ⟨_, rfl⟩
  have h0 : W.cell? ⟨w.heap.size, 0, none⟩ = some (.int .i64 lo) := by rw [← hW]; exact cell_box w _ 62 0 _ rfl
  have h1 : W.cell? ⟨w.heap.size, 1, none⟩ = some (.int .i64 hi) := by rw [← hW]; exact cell_box w _ 62 1 _ rfl
  have hb : Below w.heap.size w W := by rw [← hW]; exact (Below.refl _ _).alloc (Nat.le_refl _) _
  have HB := hid hb
  clear hb
  go_enter Try.func48, Try.ntmps48
  go_wp2_with fail
  exact bodyPost_ret (v := .agg #[.int .i64 lo, .int .i64 hi]) (by simp [results, Try.f48, go_sem, h0, h1]) rfl ⟨rfl, HB.out⟩

set_option maxRecDepth 20000 in
set_option maxHeartbeats 1000000 in
theorem lot_any (d : Int) (w : World) : Calls Try.prog 67 #[.int .i64 d] w fun e w' => e = .returned (.agg #[.int .i64 5, .int .i64 7, .int .i64 d]) ∧ Below w.heap.size w w' := by
  obtain ⟨W, hW⟩ : ∃ W, w.alloc (.cells #[.int .i64 5, .int .i64 7, .int .i64 d] 87) = W := ⟨_, rfl⟩
  have h0 : W.cell? ⟨w.heap.size, 0, none⟩ = some (.int .i64 5) := by rw [← hW]; exact cell_box w _ 87 0 _ rfl
  have h1 : W.cell? ⟨w.heap.size, 1, none⟩ = some (.int .i64 7) := by rw [← hW]; exact cell_box w _ 87 1 _ rfl
  have h2 : W.cell? ⟨w.heap.size, 2, none⟩ = some (.int .i64 d) := by rw [← hW]; exact cell_box w _ 87 2 _ rfl
  have hb : Below w.heap.size w W := by rw [← hW]; exact (Below.refl _ _).alloc (Nat.le_refl _) _
  have HB := hid hb
  clear hb
  go_enter Try.func67, Try.ntmps67
  go_wp2_with fail
  exact bodyPost_ret (v := .agg #[.int .i64 5, .int .i64 7, .int .i64 d]) (by simp [results, Try.f67, go_sem, h0, h1, h2]) rfl ⟨rfl, HB.out⟩

set_option maxRecDepth 20000 in
set_option maxHeartbeats 1000000 in
theorem torn_any (w : World) : Calls Try.prog 68 #[] w fun e w' => e = .returned (.agg #[.int .i64 1, .int .i64 1, .int .i64 1, .bool false]) ∧ Below w.heap.size w w' := by
  obtain ⟨W, hW⟩ : ∃ W, w.alloc (.cells #[.int .i64 0, .int .i64 0, .int .i64 0, .bool false] 101) = W := ⟨_, rfl⟩
  have B : Boxed1 w #[.int .i64 0, .int .i64 0, .int .i64 0, .bool false] 101 W := by rw [← hW]; exact Boxed1.start _ _ _
  have HB := hid B
  clear B
  go_enter Try.func68, Try.ntmps68
  go_wp2_with fail
  refine (between_any _ _ _).mono ?_
  rintro e W1 ⟨rfl, hb1⟩
  have B1 := HB.out.step hb1
  have h0 := B1.cell 0 rfl
  have h1 := B1.cell 1 rfl
  have h2 := B1.cell 2 rfl
  have h3 := B1.cell 3 rfl
  have z0 := B1.fz 0 rfl
  have z1 := B1.fz 1 rfl
  have z2 := B1.fz 2 rfl
  have z3 := B1.fz 3 rfl
  have HB1 := hid B1
  clear hb1 B1
  go_wp2_with fail
  have ⟨r0, r1, r2, r3⟩ := set4 h0 h1 h2 h3 (.int .i64 1) (.int .i64 1) (.int .i64 1) (.bool false)
  exact bodyPost_ret (v := .agg #[.int .i64 1, .int .i64 1, .int .i64 1, .bool false]) (by simp [results, Try.f68, go_sem, r0, r1, r2, r3]) rfl ⟨rfl, (((HB1.out.below.setCell (p := ⟨w.heap.size, 0, none⟩) (Nat.le_refl _) _).setCell (p := ⟨w.heap.size, 1, none⟩) (Nat.le_refl _) _).setCell (p := ⟨w.heap.size, 2, none⟩) (Nat.le_refl _) _).setCell (p := ⟨w.heap.size, 3, none⟩) (Nat.le_refl _) _⟩

/-- A survey comes back, with its slices. -/
def RetSurv (w : World) (r cc : Int) (l : List Int) (sm : Int) (cs : List Cnt) (e : Ending) (w' : World) : Prop :=
  ∃ p n c q m d, e = .returned (.agg #[.int .i64 r, .int .i64 cc, .slice p n c, .int .i64 sm, .slice q m d]) ∧ IntsAt w' p n l ∧ CntsAt w' q m cs ∧ Below w.heap.size w w'


theorem Try.info101 : (Try.prog.info? 101).map (fun i => (i.zero, i.size, i.bytes)) = some (some (.agg #[.int .i64 0, .int .i64 0, .int .i64 0, .bool false]), 4, 32) := by kernel_rfl
theorem Try.und34 : Try.prog.underlying 34 = some (.slice 101) := by kernel_rfl
def cells4 (c : Cnt) : List Value := [.int .i64 c.place, .int .i64 c.lo, .int .i64 c.hi, .bool c.late]
theorem flat_get4 : ∀ (T : List Cnt) (i j : Nat) (h : Cnt) (v : Value), T[i]? = some h → (cells4 h)[j]? = some v → (T.flatMap cells4)[i * 4 + j]? = some v
  | [], i, j, h, v, hi, _ => by simp at hi
  | t :: T, i, j, h, v, hi, hj => by
    have hl : (cells4 t).length = 4 := rfl
    have hj4 : j < 4 := by have := (List.getElem?_eq_some_iff.1 hj).1; simpa [cells4] using this
    rw [List.flatMap_cons]
    cases i with
    | zero =>
      simp at hi; subst hi
      rw [List.getElem?_append_left (by rw [hl]; omega)]
      simpa using hj
    | succ i =>
      rw [List.getElem?_append_right (by rw [hl]; omega), hl, show (i + 1) * 4 + j - 4 = i * 4 + j by omega]
      exact flat_get4 T i j h v (by simpa using hi) hj
theorem flat_get4' : ∀ (T : List Cnt) (j : Nat) (u : Value), (T.flatMap cells4)[j]? = some u → ∃ c, T[j / 4]? = some c ∧ (cells4 c)[j % 4]? = some u
  | [], j, u, h => by simp at h
  | t :: T, j, u, h => by
    have hl : (cells4 t).length = 4 := rfl
    rw [List.flatMap_cons] at h
    by_cases hj : j < 4
    · rw [List.getElem?_append_left (by rw [hl]; omega)] at h
      refine ⟨t, ?_, ?_⟩
      · rw [Nat.div_eq_of_lt hj]; rfl
      · rw [Nat.mod_eq_of_lt hj]; exact h
    · rw [List.getElem?_append_right (by rw [hl]; omega), hl] at h
      obtain ⟨c, h1, h2⟩ := flat_get4' T (j - 4) u h
      refine ⟨c, ?_, ?_⟩
      · rw [show j / 4 = (j - 4) / 4 + 1 by omega]; simpa using h1
      · rw [show j % 4 = (j - 4) % 4 by omega]; exact h2
def OwnCnts (w : World) (base : Nat) (v : Value) (l : List Cnt) : Prop := w.ownsRow base 101 4 v l.length (l.flatMap cells4)
theorem OwnCnts.slice {w : World} {base : Nat} {v : Value} {l : List Cnt} (h : OwnCnts w base v l) : ∃ p c, v = .slice p l.length c ∧ CntsAt w p l.length l := by
  rcases h.2 with ⟨rfl, h0⟩ | ⟨g, cap, cur, rfl, hg, hh, hn, hm, hs, ht⟩
  · exact ⟨none, 0, by rw [h0], rfl, fun i c hi => by have := (List.getElem?_eq_some_iff.1 hi).1; omega⟩
  · refine ⟨_, cap, rfl, rfl, fun i c hi => ⟨g, 0, rfl, (Array.getElem?_eq_some_iff.1 hh).1, ?_⟩⟩
    have hc : ∀ j v, (cells4 c)[j]? = some v → w.cell? ⟨g, 0 + i * 4 + j, none⟩ = some v := by
      intro j v hj
      have hc := World.ownsRow.cells h (g := g) rfl (i * 4 + j) v (flat_get4 l i j c v hi hj)
      have e : ∀ z : Nat, (⟨g, 0, none⟩ : Addr).add z = ⟨g, 0 + z, none⟩ := fun z => by unfold Addr.add; split <;> simp_all
      rw [e] at hc
      rw [show 0 + i * 4 + j = 0 + (i * 4 + j) by omega]
      exact hc
    exact ⟨by have := hc 0 _ rfl; simpa using this, hc 1 _ rfl, hc 2 _ rfl, hc 3 _ rfl⟩
theorem OwnCnts.mono {w : World} {base base' : Nat} {v : Value} {l : List Cnt} (h : OwnCnts w base v l) (hb : base' ≤ base) : OwnCnts w base' v l := by
  refine ⟨h.1, ?_⟩
  rcases h.2 with h0 | ⟨g, cap, cur, hv, hg, r⟩
  · exact .inl h0
  · exact .inr ⟨g, cap, cur, hv, Nat.le_trans hb hg, r⟩
theorem OwnCnts.below {w w' : World} {base : Nat} {v : Value} {l : List Cnt} (h : OwnCnts w base v l) (hb : Below w.heap.size w w') : OwnCnts w' base v l := row_block h fun g hg => hb.block g (World.ownsRow.lt h g hg).2

/-- append(out, l...), l counts that lie somewhere: at the operation. -/
theorem append_cnts {ops : Array Oper} {rest : List Oper} {o : Oper} {a : Act} {w : World} {Q : Exit → Act → World → Prop} (hgd : o.guard = none) (s x : Operand)
    (ho : o.op = .call { callee := .builtin .append, args := #[s, x], argTypes := #[34, 34] })
    (base : Nat) (v : Value) (l : List Cnt) (ad : Addr) (m c : Nat) (y : List Cnt) (hown : OwnCnts w base v l) (hs : a.eval s = v) (hx : a.eval x = .slice (some ad) m c) (hy : CntsAt w (some ad) m y)
    (hlen : l.length ≤ 1000000) (hm : m ≤ 1000000) (hbase : base ≤ w.heap.size)
    (h : ∀ v' w', OwnCnts w' base v' (l ++ y) → Below base w w' → wpList Try.prog ops Q rest (a.put o.dst v') w') :
    wpList Try.prog ops Q (o :: rest) a w := by
  obtain ⟨i0, hi, hz0, hz1, hz2⟩ := info_parts Try.info101
  have hl4 : ∀ T : List Cnt, (T.flatMap cells4).length = T.length * 4 := by
    intro T
    induction T with
    | nil => rfl
    | cons t T ih => rw [List.flatMap_cons, List.length_append, ih, List.length_cons]; show 4 + _ = _; omega
  refine wpList_append_own _ hgd s x 34 ho base 101 i0 _ 4 32 Try.und34 hi hz0 hz1 hz2 rfl (by decide) v l.length _ hs hown
    ad m c (y.flatMap cells4) hx (by rw [hl4, hy.1]) ?_ ?_ (by unfold maxLen; omega) (by omega) hbase ?_
  · intro j u hj
    obtain ⟨z, hz, hu⟩ := flat_get4' y j u hj
    obtain ⟨b, off, e, hlt, q0, q1, q2, q3⟩ := hy.2 (j / 4) z hz
    cases e
    have e : (⟨b, off, none⟩ : Addr).add j = ⟨b, off + j / 4 * 4 + j % 4, none⟩ := by
      have e : (⟨b, off, none⟩ : Addr).add j = ⟨b, off + j, none⟩ := by unfold Addr.add; split <;> simp_all
      rw [e, show off + j = off + j / 4 * 4 + j % 4 by omega]
    rw [e]
    have hm4 : j % 4 < 4 := Nat.mod_lt _ (by omega)
    generalize j % 4 = k at hu hm4 ⊢
    match k, hm4 with
    | 0, _ => simp [cells4] at hu; subst hu; exact q0
    | 1, _ => simp [cells4] at hu; subst hu; exact q1
    | 2, _ => simp [cells4] at hu; subst hu; exact q2
    | 3, _ => simp [cells4] at hu; subst hu; exact q3
  · intro u hu
    obtain ⟨z, _, hz⟩ := List.mem_flatMap.1 hu
    simp only [cells4, List.mem_cons, List.not_mem_nil, or_false] at hz
    rcases hz with rfl | rfl | rfl | rfl <;> simp [Value.oneCell']
  · intro v' w' h1 h2 _
    refine h v' w' ?_ ?_
    · unfold OwnCnts
      rw [List.length_append, ← hy.1, List.flatMap_append]
      exact h1
    · refine (Below.refl base w).grown h2 hbase ?_
      intro k hk
      exact (World.ownsRow.lt hown k hk).1

theorem heap_set5 (W : World) (b : Nat) (x0 x1 x2 x3 x4 : Value) (k : Nat) (hk : k ≠ b) : (((((W.setCell ⟨b, 0, none⟩ x0).setCell ⟨b, 1, none⟩ x1).setCell ⟨b, 2, none⟩ x2).setCell ⟨b, 3, none⟩ x3).setCell ⟨b, 4, none⟩ x4).heap[k]? = W.heap[k]? := by
  rw [Below.heap_setCell _ _ _ _ hk, Below.heap_setCell _ _ _ _ hk, Below.heap_setCell _ _ _ _ hk, Below.heap_setCell _ _ _ _ hk, Below.heap_setCell _ _ _ _ hk]

set_option maxRecDepth 40000 in
set_option maxHeartbeats 4000000 in
theorem strip2_any (w : World) : Calls Try.prog 66 #[.slice none 0 0] w (RetSurv w 1 4 st4 2 cs2) := by
  obtain ⟨W, hW⟩ : ∃ W, (w.alloc (.cells #[.int .i64 0, .int .i64 0, .slice none 0 0, .int .i64 0, .slice none 0 0] 36)).alloc (.cells #[.int .i64 4, .int .i64 4, .int .i64 4, .int .i64 4] 3) = W := ⟨_, rfl⟩
  have B1 : Boxed1 w #[.int .i64 0, .int .i64 0, .slice none 0 0, .int .i64 0, .slice none 0 0] 36 W := by rw [← hW]; exact (Boxed1.start _ _ _).alloc _
  have B2 : Boxed1 (w.alloc (.cells #[.int .i64 0, .int .i64 0, .slice none 0 0, .int .i64 0, .slice none 0 0] 36)) #[.int .i64 4, .int .i64 4, .int .i64 4, .int .i64 4] 3 W := by rw [← hW]; exact Boxed1.start _ _ _
  have HB1 := hid B1
  have HB2 := hid B2
  clear B1 B2
  go_enter Try.func66, Try.ntmps66
  go_wp2_with fail
  refine (between_any _ _ _).mono ?_
  rintro e W1 ⟨rfl, hb1⟩
  have HC1 := hid (HB1.out.step hb1)
  have HC2 := hid (HB2.out.step hb1)
  clear hb1
  go_wp2_with fail
  refine (between_any _ _ _).mono ?_
  rintro e W2 ⟨rfl, hb2⟩
  have HD1 := hid (HC1.out.step hb2)
  have HD2 := hid (HC2.out.step hb2)
  clear hb2
  obtain ⟨W3, hW3⟩ : ∃ W3, W2.alloc (.cells #[.int .i64 0, .int .i64 4, .int .i64 4, .bool false, .int .i64 3, .int .i64 0, .int .i64 1, .bool false] 101) = W3 := ⟨_, rfl⟩
  have hb3 : Below W2.heap.size W2 W3 := by rw [← hW3]; exact (Below.refl _ _).alloc (Nat.le_refl _) _
  have HSZ2 : Hid (w.heap.size + 1 ≤ W2.heap.size) := HD1.out.size
  have HIN : Hid (IntsAt W3 (some ⟨w.heap.size + 1, 0, none⟩) 4 st4) := by
    have C := HD2.out.step hb3
    refine ⟨rfl, fun i hi => ⟨w.heap.size + 1, 0, rfl, ?_⟩⟩
    have e := World.size_alloc w (.cells #[.int .i64 0, .int .i64 0, .slice none 0 0, .int .i64 0, .slice none 0 0] 36)
    rw [← e]
    match i, hi with
    | 0, _ => exact C.cell 0 rfl
    | 1, _ => exact C.cell 1 rfl
    | 2, _ => exact C.cell 2 rfl
    | 3, _ => exact C.cell 3 rfl
  have HCN : Hid (CntsAt W3 (some ⟨W2.heap.size, 0, none⟩) 2 cs2) := by
    have o : OwnCnts W3 W2.heap.size (.slice (some ⟨W2.heap.size, 0, none⟩) 2 2) cs2 := by rw [← hW3]; exact World.ownsRow_lit W2 #[.int .i64 0, .int .i64 4, .int .i64 4, .bool false, .int .i64 3, .int .i64 0, .int .i64 1, .bool false] 2 (Nat.le_refl _) (by decide) rfl
    obtain ⟨p, c, e, h⟩ := o.slice
    cases e; exact h
  have HR := hid (HD1.out.step hb3)
  have k0 := HR.out.cell 0 rfl
  have k1 := HR.out.cell 1 rfl
  have k2 := HR.out.cell 2 rfl
  have k3 := HR.out.cell 3 rfl
  have k4 := HR.out.cell 4 rfl
  have z0 := HR.out.fz 0 rfl
  have z1 := HR.out.fz 1 rfl
  have z2 := HR.out.fz 2 rfl
  have z3 := HR.out.fz 3 rfl
  have z4 := HR.out.fz 4 rfl
  clear hb3
  go_wp2_with fail
  have ⟨r0, r1, r2, r3, r4⟩ := set5 k0 k1 k2 k3 k4 (.int .i64 1) (.int .i64 4) (.slice (some ⟨w.heap.size + 1, 0, none⟩) 4 4) (.int .i64 2) (.slice (some ⟨W2.heap.size, 0, none⟩) 2 2)
  refine bodyPost_ret (v := .agg #[.int .i64 1, .int .i64 4, .slice (some ⟨w.heap.size + 1, 0, none⟩) 4 4, .int .i64 2, .slice (some ⟨W2.heap.size, 0, none⟩) 2 2]) (by simp [results, Try.f66, go_sem, r0, r1, r2, r3, r4]) rfl ?_
  refine ⟨_, _, _, _, _, _, rfl, ?_, ?_, ((((HR.out.below.setCell (p := ⟨w.heap.size, 0, none⟩) (Nat.le_refl _) _).setCell (p := ⟨w.heap.size, 1, none⟩) (Nat.le_refl _) _).setCell (p := ⟨w.heap.size, 2, none⟩) (Nat.le_refl _) _).setCell (p := ⟨w.heap.size, 3, none⟩) (Nat.le_refl _) _).setCell (p := ⟨w.heap.size, 4, none⟩) (Nat.le_refl _) _⟩
  · exact HIN.out.kept (fun a ha _ _ => heap_set5 _ _ _ _ _ _ _ _ (by cases ha; show w.heap.size + 1 ≠ w.heap.size; omega))
  · exact HCN.out.kept (fun a ha _ _ => heap_set5 _ _ _ _ _ _ _ _ (by cases ha; show W2.heap.size ≠ w.heap.size; have := HSZ2.out; omega)) (by simp [World.setCell])

set_option maxRecDepth 40000 in
set_option maxHeartbeats 4000000 in
theorem strip3_any (bm : Nat) (w : World) (hm : CntsAt w (some ⟨bm, 0, none⟩) 1 [⟨1, 1, 1, false⟩]) : Calls Try.prog 66 #[.slice (some ⟨bm, 0, none⟩) 1 1] w (RetSurv w 1 4 st4 2 cs3) := by
  obtain ⟨W, hW⟩ : ∃ W, (w.alloc (.cells #[.int .i64 0, .int .i64 0, .slice none 0 0, .int .i64 0, .slice none 0 0] 36)).alloc (.cells #[.int .i64 4, .int .i64 4, .int .i64 4, .int .i64 4] 3) = W := ⟨_, rfl⟩
  have B1 : Boxed1 w #[.int .i64 0, .int .i64 0, .slice none 0 0, .int .i64 0, .slice none 0 0] 36 W := by rw [← hW]; exact (Boxed1.start _ _ _).alloc _
  have B2 : Boxed1 (w.alloc (.cells #[.int .i64 0, .int .i64 0, .slice none 0 0, .int .i64 0, .slice none 0 0] 36)) #[.int .i64 4, .int .i64 4, .int .i64 4, .int .i64 4] 3 W := by rw [← hW]; exact Boxed1.start _ _ _
  have HB1 := hid B1
  have HMM := hid hm
  clear hm
  have HB2 := hid B2
  clear B1 B2
  go_enter Try.func66, Try.ntmps66
  go_wp2_with fail
  refine (between_any _ _ _).mono ?_
  rintro e W1 ⟨rfl, hb1⟩
  have HC1 := hid (HB1.out.step hb1)
  have HC2 := hid (HB2.out.step hb1)
  clear hb1
  go_wp2_with fail
  refine (between_any _ _ _).mono ?_
  rintro e W2 ⟨rfl, hb2⟩
  have HD1 := hid (HC1.out.step hb2)
  have HD2 := hid (HC2.out.step hb2)
  clear hb2
  obtain ⟨W3, hW3⟩ : ∃ W3, W2.alloc (.cells #[.int .i64 0, .int .i64 4, .int .i64 4, .bool false, .int .i64 3, .int .i64 0, .int .i64 1, .bool false] 101) = W3 := ⟨_, rfl⟩
  have hb3 : Below W2.heap.size W2 W3 := by rw [← hW3]; exact (Below.refl _ _).alloc (Nat.le_refl _) _
  have HSZ2 : Hid (w.heap.size + 1 ≤ W2.heap.size) := HD1.out.size
  have HIN : Hid (IntsAt W3 (some ⟨w.heap.size + 1, 0, none⟩) 4 st4) := by
    have C := HD2.out.step hb3
    refine ⟨rfl, fun i hi => ⟨w.heap.size + 1, 0, rfl, ?_⟩⟩
    have e := World.size_alloc w (.cells #[.int .i64 0, .int .i64 0, .slice none 0 0, .int .i64 0, .slice none 0 0] 36)
    rw [← e]
    match i, hi with
    | 0, _ => exact C.cell 0 rfl
    | 1, _ => exact C.cell 1 rfl
    | 2, _ => exact C.cell 2 rfl
    | 3, _ => exact C.cell 3 rfl
  have HSZ2' : Hid (w.heap.size + 2 ≤ W2.heap.size) := by have h9 := HD2.out.size; rw [World.size_alloc] at h9; exact h9
  have HOWN : Hid (OwnCnts W3 (w.heap.size + 2) (.slice (some ⟨W2.heap.size, 0, none⟩) 2 2) cs2) := by
    rw [← hW3]; exact World.ownsRow_lit W2 #[.int .i64 0, .int .i64 4, .int .i64 4, .bool false, .int .i64 3, .int .i64 0, .int .i64 1, .bool false] 2 HSZ2'.out (by decide) rfl
  have HM3 := hid (HMM.out.below ((HD1.out.step hb3).below))
  have HC3 := hid (HD1.out.step hb3)
  have HSZ3 : Hid (w.heap.size + 2 ≤ W3.heap.size) := Nat.le_trans HSZ2'.out hb3.size
  clear hb3
  go_wp2_with (at_builtin; refine append_cnts (by rfl) (.tmp 9) (.tmp 10) (by rfl) (w.heap.size + 2) _ cs2 ⟨bm, 0, none⟩ 1 1 [⟨1, 1, 1, false⟩] HOWN.out (by rfl) (by rfl) HM3.out (by decide) (by decide) HSZ3.out ?_; intro v' W4 ho' hb'; obtain ⟨p4, c4, rfl, hcn⟩ := ho'.slice; have hlt4 := fun g hg => World.ownsRow.lt ho' g hg; have HR := hid (Boxed1.step' HC3.out (hb'.mono (by omega))); have HIN := hid (HIN.out.kept (fun a ha h0 hlt => hb'.block _ (by cases ha; show w.heap.size + 1 < w.heap.size + 2; omega))); have HCN := hid hcn; have HLT := hid hlt4; clear hb' hcn ho' hlt4; have k0 := HR.out.cell 0 rfl; have k1 := HR.out.cell 1 rfl; have k2 := HR.out.cell 2 rfl; have k3 := HR.out.cell 3 rfl; have k4 := HR.out.cell 4 rfl; have z0 := HR.out.fz 0 rfl; have z1 := HR.out.fz 1 rfl; have z2 := HR.out.fz 2 rfl; have z3 := HR.out.fz 3 rfl; have z4 := HR.out.fz 4 rfl)
  have ⟨r0, r1, r2, r3, r4⟩ := set5 k0 k1 k2 k3 k4 (.int .i64 1) (.int .i64 4) (.slice (some ⟨w.heap.size + 1, 0, none⟩) 4 4) (.int .i64 2) (.slice p4 (cs2.length + 1) c4)
  refine bodyPost_ret (v := .agg #[.int .i64 1, .int .i64 4, .slice (some ⟨w.heap.size + 1, 0, none⟩) 4 4, .int .i64 2, .slice p4 (cs2.length + 1) c4]) (by simp [results, Try.f66, go_sem, r0, r1, r2, r3, r4]) rfl ?_
  refine ⟨_, _, _, _, _, _, rfl, ?_, ?_, ((((HR.out.below.setCell (p := ⟨w.heap.size, 0, none⟩) (Nat.le_refl _) _).setCell (p := ⟨w.heap.size, 1, none⟩) (Nat.le_refl _) _).setCell (p := ⟨w.heap.size, 2, none⟩) (Nat.le_refl _) _).setCell (p := ⟨w.heap.size, 3, none⟩) (Nat.le_refl _) _).setCell (p := ⟨w.heap.size, 4, none⟩) (Nat.le_refl _) _⟩
  · exact HIN.out.kept (fun a ha _ _ => heap_set5 _ _ _ _ _ _ _ _ (by cases ha; show w.heap.size + 1 ≠ w.heap.size; omega))
  · refine CntsAt.kept (w := W4) (n := cs2.length + 1) (l := cs3) HCN.out (fun a ha _ _ => heap_set5 W4 w.heap.size _ _ _ _ _ a.block ?_) (by simp [World.setCell])
    cases ha
    have h9 : w.heap.size + 2 ≤ a.block := (HLT.out a.block rfl).1
    omega
end Go.Proofs.Ytlicijnaacdceaa

/- The laws' helpers: to, fault, Thin. -/
namespace Go.Proofs.Ytlicijnaacdceaa
open Go.RowKit

set_option maxRecDepth 20000 in
set_option maxHeartbeats 1000000 in
theorem to_any (lo hi : Int) (w : World) : Calls Try.prog 44 #[.agg #[.int .i64 lo, .int .i64 hi]] w fun e w' => e = .returned (.agg #[.int .i64 lo, .int .i64 hi]) ∧ Below w.heap.size w w' := by
  obtain ⟨W, hW⟩ : ∃ W, (w.alloc (.cells #[.int .i64 lo, .int .i64 hi] 45)).alloc (.cells #[.int .i64 0, .int .i64 0] 62) = W := ⟨_, rfl⟩
  have B : Boxed2 w #[.int .i64 lo, .int .i64 hi] 45 #[.int .i64 0, .int .i64 0] 62 W := by rw [← hW]; exact Below.refl _ _
  have k0 := B.cell1 0 (v := .int .i64 lo) rfl
  have k1 := B.cell1 1 (v := .int .i64 hi) rfl
  have t0 := B.cell2 0 rfl
  have t1 := B.cell2 1 rfl
  have z0 := B.fz2 0 rfl
  have z1 := B.fz2 1 rfl
  have HB := hid B.below
  clear B
  go_enter Try.func44, Try.ntmps44
  go_wp2_with fail
  have ⟨r0, r1⟩ := set2 t0 t1 (.int .i64 lo) (.int .i64 hi)
  exact bodyPost_ret (v := .agg #[.int .i64 lo, .int .i64 hi]) (by simp [results, Try.f44, go_sem, r0, r1]) rfl ⟨rfl, (HB.out.setCell (p := ⟨w.heap.size + 1, 0, none⟩) (by show w.heap.size ≤ w.heap.size + 1; omega) _).setCell (p := ⟨w.heap.size + 1, 1, none⟩) (by show w.heap.size ≤ w.heap.size + 1; omega) _⟩

set_option maxRecDepth 20000 in
set_option maxHeartbeats 2000000 in
theorem faultX_any (r cc : Int) (p : Option Addr) (n c : Nat) (l : List Int) (sm : Int) (q : Option Addr) (m d : Nat) (cs : List Cnt) (w : World) (hl : IntsAt w p n l) (hcs : CntsAt w q m cs) (hn : n ≤ 100) (hm : m ≤ 100) :
    Calls Try.prog 25 #[.agg #[.int .i64 r, .int .i64 cc, .slice p n c, .int .i64 sm, .slice q m d]] w fun e w' => e = .returned (.int .i64 (faultL r cc l sm cs)) ∧ Below w.heap.size w w' := by
  have HC := hid (fun W (hW : Below w.heap.size w W) => fault_any r cc p n c l sm q m d cs W (hl.below hW) (hcs.below hW) (by omega) (by omega))
  clear hl hcs
  go_enter Try.func25, Try.ntmps25
  go_wp2_with fail
  refine (HC.out _ ((Below.refl _ _).alloc (Nat.le_refl _) _)).mono ?_
  rintro e w1 ⟨rfl, hb⟩
  go_wp2_with fail
  go_ret
  exact ⟨rfl, ((Below.refl _ _).alloc (Nat.le_refl _) _).trans (Below.mono hb (by simp))⟩

set_option maxRecDepth 20000 in
set_option maxHeartbeats 2000000 in
theorem thin_any (r cc : Int) (p : Option Addr) (n c : Nat) (sm : Int) (q : Option Addr) (m d : Nat) (w : World) :
    Calls Try.prog 19 #[.agg #[.int .i64 r, .int .i64 cc, .slice p n c, .int .i64 sm, .slice q m d]] w fun e w' => e = .returned (.bool (decide (n ≤ 12) && decide (m ≤ 9))) ∧ Below w.heap.size w w' := by
  have hb := (Below.refl w.heap.size w).alloc (Nat.le_refl _) (.cells #[.int .i64 r, .int .i64 cc, .slice p n c, .int .i64 sm, .slice q m d] 27)
  have HB := hid hb
  clear hb
  by_cases h1 : n ≤ 12
  · have h1' : (n : Int) ≤ 12 := by omega
    go_enter Try.func19, Try.ntmps19
    go_wp2_with fail
    go_ret
    exact ⟨ret_bool (by by_cases h2 : m ≤ 9 <;> simp [h1, h2] <;> omega), HB.out⟩
  · have h1' : ¬ (n : Int) ≤ 12 := by omega
    go_enter Try.func19, Try.ntmps19
    go_wp2_with fail
    go_ret
    exact ⟨ret_bool (by simp []), HB.out⟩
end Go.Proofs.Ytlicijnaacdceaa
