/- The statements' helpers: ranges, rectangles, the chapter's storm. No condition. -/
import Derived.Test.YtfnefkenheglhaaA12
import Derived.Test.YtfnefkenheglhaaLawA0
namespace Go.Proofs.Ytfnefkenheglhaa
open Go.RowKit

theorem between_any (a b : Int) (w : World) : Calls Try.prog 70 #[.int .i64 a, .int .i64 b] w fun e w' => e = .returned (.agg #[.int .i64 a, .int .i64 b]) ∧ Below w.heap.size w w' := by
  have hx := BoxIs.start w #[.int .i64 0, .int .i64 0] 29
  have x0 := (hx.2 0 (.int .i64 0) rfl).1; have x1 := (hx.2 1 (.int .i64 0) rfl).1; have f0 := (hx.2 0 (.int .i64 0) rfl).2; have f1 := (hx.2 1 (.int .i64 0) rfl).2
  have HR := hid ((hx.put (j := 0) (.int .i64 a)).put (j := 1) (.int .i64 b))
  clear hx
  go_enter Try.func70, Try.ntmps70
  go_wp2_with fail
  have y0 := (HR.out.2 0 (.int .i64 a) rfl).1; have y1 := (HR.out.2 1 (.int .i64 b) rfl).1
  refine bodyPost_ret (v := .agg #[.int .i64 a, .int .i64 b]) (by simp [results, Try.f70, go_sem]) rfl ?_
  first
    | exact ⟨rfl, Below.alloc (Below.refl _ _) (Nat.le_refl _) _⟩
    | exact ⟨rfl, ((Below.alloc (Below.refl _ _) (Nat.le_refl _) _).setCell (p := ⟨w.heap.size, 0, none⟩) (Nat.le_refl _) _).setCell (p := ⟨w.heap.size, 1, none⟩) (Nat.le_refl _) _⟩
theorem to_any (r : Rng) (w : World) : Calls Try.prog 25 #[.agg #[.int .i64 r.lo, .int .i64 r.hi]] w fun e w' => e = .returned (.agg #[.int .i64 r.lo, .int .i64 r.hi]) ∧ Below w.heap.size w w' := by
  obtain ⟨W0, hW0⟩ : ∃ V, (w.alloc (.cells #[.int .i64 r.lo, .int .i64 r.hi] 23)).alloc (.cells #[.int .i64 0, .int .i64 0] 29) = V := ⟨_, rfl⟩
  have hb : Boxed1 w #[.int .i64 r.lo, .int .i64 r.hi] 23 W0 := by rw [← hW0]; exact (Boxed1.start _ _ _).alloc _
  have hx : BoxIs (w.heap.size + 1) #[.int .i64 0, .int .i64 0] W0 := by
    have h := BoxIs.start (w.alloc (.cells #[.int .i64 r.lo, .int .i64 r.hi] 23)) #[.int .i64 0, .int .i64 0] 29
    rw [World.size_alloc, hW0] at h; exact h
  have e0 := (RngAt.of hb.cell).c0; have e1 := (RngAt.of hb.cell).c1
  have x0 := (hx.2 0 (.int .i64 0) rfl).1; have x1 := (hx.2 1 (.int .i64 0) rfl).1; have f0 := (hx.2 0 (.int .i64 0) rfl).2; have f1 := (hx.2 1 (.int .i64 0) rfl).2
  have HB := hid hb.below
  have HR := hid ((hx.put (j := 0) (.int .i64 r.lo)).put (j := 1) (.int .i64 r.hi))
  clear hb hx
  go_enter Try.func25, Try.ntmps25
  go_wp2_with fail
  have y0 := (HR.out.2 0 (.int .i64 r.lo) rfl).1; have y1 := (HR.out.2 1 (.int .i64 r.hi) rfl).1
  refine bodyPost_ret (v := .agg #[.int .i64 r.lo, .int .i64 r.hi]) (by simp [results, Try.f25, go_sem, y0, y1]) rfl ?_
  exact ⟨rfl, (HB.out.setCell (p := ⟨w.heap.size + 1, 0, none⟩) (by show w.heap.size ≤ w.heap.size + 1; omega) _).setCell (p := ⟨w.heap.size + 1, 1, none⟩) (by show w.heap.size ≤ w.heap.size + 1; omega) _⟩

set_option maxRecDepth 20000 in
set_option maxHeartbeats 1000000 in
theorem rect69_any (a b c d : Int) (w : World) : Calls Try.prog 69 #[.int .i64 a, .int .i64 b, .int .i64 c, .int .i64 d] w fun e w' => e = .returned (.agg #[.int .i64 a, .int .i64 b, .int .i64 c, .int .i64 d]) ∧ Below w.heap.size w w' := by
  have HX := hid (BoxIs.start w #[.int .i64 0, .int .i64 0, .int .i64 0, .int .i64 0] 70)
  have HB : Hid (Below w.heap.size w (w.alloc (.cells #[.int .i64 0, .int .i64 0, .int .i64 0, .int .i64 0] 70))) := hid ((Below.refl _ _).alloc (Nat.le_refl _) _)
  go_enter Try.func69, Try.ntmps69
  go_wp2_with fail
  (with_reducible refine (between_any a b _).mono ?_)
  rintro e w1 ⟨rfl, hb⟩
  have HX1 := hid (HX.out.below hb); have HB1 := hid (HB.out.trans (hb.mono HB.out.size))
  clear hb
  go_wp2_with fail
  (with_reducible refine (between_any c d _).mono ?_)
  rintro e w2 ⟨rfl, hb⟩
  have HX2 := hid (HX1.out.below hb); have HB2 := hid (HB1.out.trans (hb.mono HB1.out.size))
  clear hb
  have x0 := (HX2.out.2 0 (.int .i64 0) rfl).1; have f0 := (HX2.out.2 0 (.int .i64 0) rfl).2
  have x1 := (HX2.out.2 1 (.int .i64 0) rfl).1; have f1 := (HX2.out.2 1 (.int .i64 0) rfl).2
  have x2 := (HX2.out.2 2 (.int .i64 0) rfl).1; have f2 := (HX2.out.2 2 (.int .i64 0) rfl).2
  have x3 := (HX2.out.2 3 (.int .i64 0) rfl).1; have f3 := (HX2.out.2 3 (.int .i64 0) rfl).2
  have HR := hid ((((HX2.out.put (j := 0) (.int .i64 a)).put (j := 1) (.int .i64 b)).put (j := 2) (.int .i64 c)).put (j := 3) (.int .i64 d))
  go_wp2_with fail
  have y0 := (HR.out.2 0 (.int .i64 a) rfl).1
  have y1 := (HR.out.2 1 (.int .i64 b) rfl).1
  have y2 := (HR.out.2 2 (.int .i64 c) rfl).1
  have y3 := (HR.out.2 3 (.int .i64 d) rfl).1
  refine bodyPost_ret (v := .agg #[.int .i64 a, .int .i64 b, .int .i64 c, .int .i64 d]) (by simp [results, Try.f69, go_sem, y0, y1, y2, y3]) rfl ?_
  exact ⟨rfl, ((((HB2.out.setCell (p := ⟨w.heap.size, 0, none⟩) (Nat.le_refl _) (.int .i64 a)).setCell (p := ⟨w.heap.size, 1, none⟩) (Nat.le_refl _) (.int .i64 b)).setCell (p := ⟨w.heap.size, 2, none⟩) (Nat.le_refl _) (.int .i64 c)).setCell (p := ⟨w.heap.size, 3, none⟩) (Nat.le_refl _) (.int .i64 d))⟩

set_option maxRecDepth 40000 in
set_option maxHeartbeats 8000000 in
theorem rect40_any (x y : Rng) (w : World) : Calls Try.prog 40 #[.agg #[.int .i64 x.lo, .int .i64 x.hi, .int .i64 y.lo, .int .i64 y.hi]] w fun e w' => e = .returned (.agg #[.int .i64 x.lo, .int .i64 x.hi, .int .i64 y.lo, .int .i64 y.hi]) ∧ Below w.heap.size w w' := by
  obtain ⟨W0, hW0⟩ : ∃ V, (w.alloc (.cells #[.int .i64 x.lo, .int .i64 x.hi, .int .i64 y.lo, .int .i64 y.hi] 64)).alloc (.cells #[.int .i64 0, .int .i64 0, .int .i64 0, .int .i64 0] 70) = V := ⟨_, rfl⟩
  have HB0 : Hid (Boxed1 w #[.int .i64 x.lo, .int .i64 x.hi, .int .i64 y.lo, .int .i64 y.hi] 64 W0.drew) := by show Boxed1 _ _ _ _; rw [← hW0]; exact ((Boxed1.start _ _ _).alloc _).drew
  have HX0 : Hid (BoxIs (w.heap.size + 1) #[.int .i64 0, .int .i64 0, .int .i64 0, .int .i64 0] W0.drew) := by
    show BoxIs _ _ _
    have h := BoxIs.start (w.alloc (.cells #[.int .i64 x.lo, .int .i64 x.hi, .int .i64 y.lo, .int .i64 y.hi] 64)) #[.int .i64 0, .int .i64 0, .int .i64 0, .int .i64 0] 70
    rw [World.size_alloc, hW0] at h; exact h.below (Below.refl _ _).drew
  go_enter Try.func40, Try.ntmps40
  go_upto_region 1 with fail
  clear hW0
  refine wp_region_held_drew (S := fun V => Boxed1 w #[.int .i64 x.lo, .int .i64 x.hi, .int .i64 y.lo, .int .i64 y.hi] 64 V) (by kernel_rfl) (HB0.out) (fun hS => ?_)
  simp only [List.size_toArray, List.length_cons, List.length_nil, Nat.reduceAdd, Array.replicate_succ, Array.replicate_zero, List.push_toArray, List.nil_append, List.cons_append]
  refine tkH (i := 0) (v := ?_) (fun V hV => ?_) ?_
  rotate_left
  · go_simp
    try with_reducible rfl
  try simp only [Act.put, List.getElem_toArray, List.getElem_cons_zero, List.setIfInBounds_toArray, List.set_cons_zero, List.set_cons_succ]
  refine tkH (i := 1) (v := ?_) (fun V hV => ?_) ?_
  rotate_left
  · have e0 := (RecAt.of hV.cell).c0; have e1 := (RecAt.of hV.cell).c1; have e2 := (RecAt.of hV.cell).c2; have e3 := (RecAt.of hV.cell).c3; go_simp
    try with_reducible rfl
  try simp only [Act.put, List.getElem_toArray, List.getElem_cons_zero, List.getElem_cons_succ, List.setIfInBounds_toArray, List.set_cons_zero, List.set_cons_succ]
  refine tkH (i := 3) (v := ?_) (fun V hV => ?_) ?_
  rotate_left
  · go_simp
    try with_reducible rfl
  try simp only [Act.put, List.getElem_toArray, List.getElem_cons_zero, List.getElem_cons_succ, List.setIfInBounds_toArray, List.set_cons_zero, List.set_cons_succ]
  refine tkH (i := 4) (v := ?_) (fun V hV => ?_) ?_
  rotate_left
  · have e0 := (RecAt.of hV.cell).c0; have e1 := (RecAt.of hV.cell).c1; have e2 := (RecAt.of hV.cell).c2; have e3 := (RecAt.of hV.cell).c3; go_simp
    try with_reducible rfl
  try simp only [Act.put, List.getElem_toArray, List.getElem_cons_zero, List.getElem_cons_succ, List.setIfInBounds_toArray, List.set_cons_zero, List.set_cons_succ]
  refine wpAnyH_ready (rs := [2]) (by kernel_rfl) (by simp) ?_
  refine AllReadyH.cons (o := _) rfl (fun K hK => ?_) AllReadyH.nil
  go_simp
  (with_reducible refine (to_any x _).mono ?_)
  rintro e v2 ⟨rfl, hb⟩
  have HX2 := hid (HX0.out.below hb)
  refine hK.out _ _ (hS.step hb) (fun hS => ?_)
  clear hK K
  try simp only [List.setIfInBounds_toArray, List.set_cons_zero, List.set_cons_succ]
  refine wpAnyH_ready (rs := [5]) (by kernel_rfl) (by simp) ?_
  refine AllReadyH.cons (o := _) rfl (fun K hK => ?_) AllReadyH.nil
  go_simp
  (with_reducible refine (to_any y _).mono ?_)
  rintro e v5 ⟨rfl, hb⟩
  have HX5 := hid (HX2.out.below hb)
  refine hK.out _ _ (hS.step hb) (fun hS => ?_)
  clear hK K
  try simp only [List.setIfInBounds_toArray, List.set_cons_zero, List.set_cons_succ]
  refine tkH (i := 6) (v := ?_) (fun V hV => ?_) ?_
  rotate_left
  · go_simp
    try with_reducible rfl
  try simp only [Act.put, List.getElem_toArray, List.getElem_cons_zero, List.getElem_cons_succ, List.setIfInBounds_toArray, List.set_cons_zero, List.set_cons_succ]
  refine wpAnyH_ready (rs := [7]) (by kernel_rfl) (by simp) ?_
  refine AllReadyH.cons (o := _) rfl (fun K hK => ?_) AllReadyH.nil
  have k0 := (HX5.out.2 0 (.int .i64 0) rfl).1; have f0 := (HX5.out.2 0 (.int .i64 0) rfl).2
  have k1 := (HX5.out.2 1 (.int .i64 0) rfl).1; have f1 := (HX5.out.2 1 (.int .i64 0) rfl).2
  have k2 := (HX5.out.2 2 (.int .i64 0) rfl).1; have f2 := (HX5.out.2 2 (.int .i64 0) rfl).2
  have k3 := (HX5.out.2 3 (.int .i64 0) rfl).1; have f3 := (HX5.out.2 3 (.int .i64 0) rfl).2
  have HX8 := hid ((((HX5.out.put (j := 0) (.int .i64 x.lo)).put (j := 1) (.int .i64 x.hi)).put (j := 2) (.int .i64 y.lo)).put (j := 3) (.int .i64 y.hi))
  go_simp
  clear k0 f0 k1 f1 k2 f2 k3 f3
  refine hK.out _ _ (hS.step' (((((Below.refl (w.heap.size + 1) v5).setCell (p := ⟨w.heap.size + 1, 0, none⟩) (Nat.le_refl _) (.int .i64 x.lo)).setCell (p := ⟨w.heap.size + 1, 1, none⟩) (Nat.le_refl _) (.int .i64 x.hi)).setCell (p := ⟨w.heap.size + 1, 2, none⟩) (Nat.le_refl _) (.int .i64 y.lo)).setCell (p := ⟨w.heap.size + 1, 3, none⟩) (Nat.le_refl _) (.int .i64 y.hi))) (fun hS => ?_)
  clear hK K
  try simp only [List.setIfInBounds_toArray, List.set_cons_zero, List.set_cons_succ]
  refine wpAnyH_done (by kernel_rfl) ?_ _
  go_wp2_with fail
  have y0 := (HX8.out.2 0 (.int .i64 x.lo) rfl).1
  have y1 := (HX8.out.2 1 (.int .i64 x.hi) rfl).1
  have y2 := (HX8.out.2 2 (.int .i64 y.lo) rfl).1
  have y3 := (HX8.out.2 3 (.int .i64 y.hi) rfl).1
  refine bodyPost_ret (v := .agg #[.int .i64 x.lo, .int .i64 x.hi, .int .i64 y.lo, .int .i64 y.hi]) (by simp [results, Try.f40, go_sem, y0, y1, y2, y3]) rfl ?_
  exact ⟨rfl, hS.below⟩

theorem lit_rows {α : Type} {enc : α → List Value} {z : Nat} (hz : ∀ c, (enc c).length = z) (l : List α) (w : World) (T : TypeId) : RowsAt enc z (w.alloc (.cells (l.flatMap enc).toArray T)) (some ⟨w.heap.size, 0, none⟩) l.length l :=
  ⟨rfl, fun i c hi => ⟨w.heap.size, 0, rfl, by simp, fun j v hj => by
    have h := cell_box w (l.flatMap enc).toArray T (i * z + j) v (by simpa using flat_get hz l i j c v hi hj)
    rw [show 0 + i * z + j = i * z + j by omega]; exact h⟩⟩
theorem RowsAt.take {α : Type} {enc : α → List Value} {z : Nat} {w : World} {p : Option Addr} {n : Nat} {l : List α} (h : RowsAt enc z w p n l) {k : Nat} (hk : k ≤ n) : RowsAt enc z w p k (l.take k) :=
  ⟨by rw [List.length_take_of_le (by have := h.1; omega)], fun i c hi => h.2 i c (by
    have h1 : i < k := by have := (List.getElem?_eq_some_iff.1 hi).1; have h2 := List.length_take_le k l; omega
    rwa [List.getElem?_take_of_lt h1] at hi)⟩
def FivePost (k : Nat) (w : World) : Ending → World → Prop := fun e w' => ∃ b, e = .returned (.agg #[.int .i64 (fiveS k).wide, .int .i64 (fiveS k).high, .int .i64 (fiveS k).fall, .int .i64 (fiveS k).a.lo, .int .i64 (fiveS k).a.hi, .int .i64 (fiveS k).b.lo, .int .i64 (fiveS k).b.hi, .int .i64 (fiveS k).half.lo, .int .i64 (fiveS k).half.hi, .int .i64 (fiveS k).peak.lo, .int .i64 (fiveS k).peak.hi, .slice (some ⟨b, 0, none⟩) k 4]) ∧ CrdsAt w' (some ⟨b, 0, none⟩) k (fiveS k).cards ∧ Below w.heap.size w w'

set_option maxRecDepth 40000 in
set_option maxHeartbeats 8000000 in
theorem five2_any (w : World) : Calls Try.prog 68 #[.int .i64 2] w (FivePost 2 w) := by
  have HXS := hid (BoxIs.start w #[.int .i64 0, .int .i64 0, .int .i64 0, .int .i64 0, .int .i64 0, .int .i64 0, .int .i64 0, .int .i64 0, .int .i64 0, .int .i64 0, .int .i64 0, .slice none 0 0] 35)
  have HBS : Hid (Below w.heap.size w (w.alloc (.cells #[.int .i64 0, .int .i64 0, .int .i64 0, .int .i64 0, .int .i64 0, .int .i64 0, .int .i64 0, .int .i64 0, .int .i64 0, .int .i64 0, .int .i64 0, .slice none 0 0] 35))) := hid ((Below.refl _ _).alloc (Nat.le_refl _) _)
  go_enter Try.func68, Try.ntmps68
  go_wp2_with fail
  (with_reducible refine (between_any 0 0 _).mono ?_)
  rintro e w1 ⟨rfl, hb⟩
  have HX0a := hid (HXS.out.below hb); have HB0a := hid (HBS.out.trans (hb.mono HBS.out.size))
  clear hb
  go_wp2_with fail
  (with_reducible refine (between_any 1 1 _).mono ?_)
  rintro e w2 ⟨rfl, hb⟩
  have HX1a := hid (HX0a.out.below hb); have HB1a := hid (HB0a.out.trans (hb.mono HB0a.out.size))
  clear hb
  go_wp2_with fail
  (with_reducible refine (between_any 3 3 _).mono ?_)
  rintro e w3 ⟨rfl, hb⟩
  have HX2a := hid (HX1a.out.below hb); have HB2a := hid (HB1a.out.trans (hb.mono HB1a.out.size))
  clear hb
  go_wp2_with fail
  (with_reducible refine (between_any 4 4 _).mono ?_)
  rintro e w4 ⟨rfl, hb⟩
  have HX3a := hid (HX2a.out.below hb); have HB3a := hid (HB2a.out.trans (hb.mono HB2a.out.size))
  clear hb
  go_wp2_with fail
  (with_reducible refine (between_any 3 3 _).mono ?_)
  rintro e w5 ⟨rfl, hb⟩
  have HX4a := hid (HX3a.out.below hb); have HB4a := hid (HB3a.out.trans (hb.mono HB3a.out.size))
  clear hb
  go_wp2_with fail
  (with_reducible refine (between_any 2 3 _).mono ?_)
  rintro e w6 ⟨rfl, hb⟩
  have HX5a := hid (HX4a.out.below hb); have HB5a := hid (HB4a.out.trans (hb.mono HB4a.out.size))
  clear hb
  go_wp2_with fail
  (with_reducible refine (between_any 2 2 _).mono ?_)
  rintro e w7 ⟨rfl, hb⟩
  have HX6a := hid (HX5a.out.below hb); have HB6a := hid (HB5a.out.trans (hb.mono HB5a.out.size))
  clear hb
  go_wp2_with fail
  (with_reducible refine (between_any 3 3 _).mono ?_)
  rintro e w8 ⟨rfl, hb⟩
  have HX7a := hid (HX6a.out.below hb); have HB7a := hid (HB6a.out.trans (hb.mono HB6a.out.size))
  clear hb
  go_wp2_with fail
  (with_reducible refine (between_any 2 2 _).mono ?_)
  rintro e w9 ⟨rfl, hb⟩
  have HX8a := hid (HX7a.out.below hb); have HB8a := hid (HB7a.out.trans (hb.mono HB7a.out.size))
  clear hb
  go_wp2_with fail
  (with_reducible refine (between_any 2 2 _).mono ?_)
  rintro e wa ⟨rfl, hb⟩
  have HX9a := hid (HX8a.out.below hb); have HB9a := hid (HB8a.out.trans (hb.mono HB8a.out.size))
  clear hb
  have HZA : Hid (w.heap.size < wa.heap.size) := hid HX9a.out.1
  obtain ⟨W1, hW1⟩ : ∃ V, wa.alloc (.cells #[.int .i64 0, .int .i64 0, .int .i64 1, .int .i64 1, .bool true, .int .i64 3, .int .i64 3, .int .i64 4, .int .i64 4, .int .i64 3, .int .i64 3, .bool true, .int .i64 2, .int .i64 3, .int .i64 2, .int .i64 2, .int .i64 3, .int .i64 3, .bool false, .int .i64 0, .int .i64 0, .int .i64 2, .int .i64 2, .int .i64 2, .int .i64 2, .bool false, .int .i64 0, .int .i64 0] 119) = V := ⟨_, rfl⟩
  have HC1 : Hid (RowsAt cellsK 7 W1 (some ⟨wa.heap.size, 0, none⟩) 4 card4) := by show RowsAt _ _ _ _ _ _; rw [← hW1]; exact lit_rows cellsK_len card4 wa 119
  have hba : Below wa.heap.size wa W1 := by rw [← hW1]; exact (Below.refl _ _).alloc (Nat.le_refl _) _
  have HX0 := hid ((HX9a.out.below hba).below (Below.refl _ _).drew)
  have HBW : Hid (Below w.heap.size w W1.drew) := hid ((HB9a.out.trans (hba.mono HB9a.out.size)).drew)
  have HD0 : Hid (Below W1.drew.heap.size W1.drew W1.drew) := hid (Below.refl _ _)
  clear hba
  go_upto_region 2 with fail
  clear hW1
  refine wp_region_held_drew (S := fun V => True) (by kernel_rfl) (trivial) (fun hS => ?_)
  simp only [List.size_toArray, List.length_cons, List.length_nil, Nat.reduceAdd, Array.replicate_succ, Array.replicate_zero, List.push_toArray, List.nil_append, List.cons_append]
  refine tkH (i := 4) (v := ?_) (fun V hV => ?_) ?_
  rotate_left
  · go_simp
    try with_reducible rfl
  try simp only [Act.put, List.getElem_toArray, List.getElem_cons_zero, List.getElem_cons_succ, List.setIfInBounds_toArray, List.set_cons_zero, List.set_cons_succ]
  refine tkH (i := 5) (v := ?_) (fun V hV => ?_) ?_
  rotate_left
  · go_simp
    try with_reducible rfl
  try simp only [Act.put, List.getElem_toArray, List.getElem_cons_zero, List.getElem_cons_succ, List.setIfInBounds_toArray, List.set_cons_zero, List.set_cons_succ]
  refine tkH (i := 6) (v := ?_) (fun V hV => ?_) ?_
  rotate_left
  · go_simp
    try with_reducible rfl
  try simp only [Act.put, List.getElem_toArray, List.getElem_cons_zero, List.getElem_cons_succ, List.setIfInBounds_toArray, List.set_cons_zero, List.set_cons_succ]
  refine wpAnyH_ready (rs := [0]) (by kernel_rfl) (by simp) ?_
  refine AllReadyH.cons (o := _) rfl (fun K hK => ?_) AllReadyH.nil
  go_simp
  (with_reducible refine (between_any 0 4 _).mono ?_)
  rintro e V1 ⟨rfl, hb⟩
  have HX1 := hid (HX0.out.below hb)
  have HD1 := hid (HD0.out.trans (hb.mono HD0.out.size))
  refine hK.out _ _ (trivial) (fun hS => ?_)
  clear hK K
  try simp only [List.setIfInBounds_toArray, List.set_cons_zero]
  refine wpAnyH_ready (rs := [1]) (by kernel_rfl) (by simp) ?_
  refine AllReadyH.cons (o := _) rfl (fun K hK => ?_) AllReadyH.nil
  go_simp
  (with_reducible refine (between_any 0 4 _).mono ?_)
  rintro e V2 ⟨rfl, hb⟩
  have HX2 := hid (HX1.out.below hb)
  have HD2 := hid (HD1.out.trans (hb.mono HD1.out.size))
  refine hK.out _ _ (trivial) (fun hS => ?_)
  clear hK K
  try simp only [List.setIfInBounds_toArray, List.set_cons_zero, List.set_cons_succ]
  refine wpAnyH_ready (rs := [2]) (by kernel_rfl) (by simp) ?_
  refine AllReadyH.cons (o := _) rfl (fun K hK => ?_) AllReadyH.nil
  go_simp
  (with_reducible refine (between_any 1 1 _).mono ?_)
  rintro e V3 ⟨rfl, hb⟩
  have HX3 := hid (HX2.out.below hb)
  have HD3 := hid (HD2.out.trans (hb.mono HD2.out.size))
  refine hK.out _ _ (trivial) (fun hS => ?_)
  clear hK K
  try simp only [List.setIfInBounds_toArray, List.set_cons_zero, List.set_cons_succ]
  refine wpAnyH_ready (rs := [3]) (by kernel_rfl) (by simp) ?_
  refine AllReadyH.cons (o := _) rfl (fun K hK => ?_) AllReadyH.nil
  go_simp
  (with_reducible refine (between_any 3 3 _).mono ?_)
  rintro e V4 ⟨rfl, hb⟩
  have HX4 := hid (HX3.out.below hb)
  have HD4 := hid (HD3.out.trans (hb.mono HD3.out.size))
  refine hK.out _ _ (trivial) (fun hS => ?_)
  clear hK K
  try simp only [List.setIfInBounds_toArray, List.set_cons_zero, List.set_cons_succ]
  refine tkH (i := 7) (v := ?_) (fun V hV => ?_) ?_
  rotate_left
  · go_simp
    try with_reducible rfl
  try simp only [Act.put, List.getElem_toArray, List.getElem_cons_zero, List.getElem_cons_succ, List.setIfInBounds_toArray, List.set_cons_zero, List.set_cons_succ]
  refine wpAnyH_ready (rs := [8]) (by kernel_rfl) (by simp) ?_
  refine AllReadyH.cons (o := _) rfl (fun K hK => ?_) AllReadyH.nil
  have k0 := (HX4.out.2 0 (.int .i64 0) rfl).1; have f0 := (HX4.out.2 0 (.int .i64 0) rfl).2
  have k1 := (HX4.out.2 1 (.int .i64 0) rfl).1; have f1 := (HX4.out.2 1 (.int .i64 0) rfl).2
  have k2 := (HX4.out.2 2 (.int .i64 0) rfl).1; have f2 := (HX4.out.2 2 (.int .i64 0) rfl).2
  have k3 := (HX4.out.2 3 (.int .i64 0) rfl).1; have f3 := (HX4.out.2 3 (.int .i64 0) rfl).2
  have k4 := (HX4.out.2 4 (.int .i64 0) rfl).1; have f4 := (HX4.out.2 4 (.int .i64 0) rfl).2
  have k5 := (HX4.out.2 5 (.int .i64 0) rfl).1; have f5 := (HX4.out.2 5 (.int .i64 0) rfl).2
  have k6 := (HX4.out.2 6 (.int .i64 0) rfl).1; have f6 := (HX4.out.2 6 (.int .i64 0) rfl).2
  have k7 := (HX4.out.2 7 (.int .i64 0) rfl).1; have f7 := (HX4.out.2 7 (.int .i64 0) rfl).2
  have k8 := (HX4.out.2 8 (.int .i64 0) rfl).1; have f8 := (HX4.out.2 8 (.int .i64 0) rfl).2
  have k9 := (HX4.out.2 9 (.int .i64 0) rfl).1; have f9 := (HX4.out.2 9 (.int .i64 0) rfl).2
  have k10 := (HX4.out.2 10 (.int .i64 0) rfl).1; have f10 := (HX4.out.2 10 (.int .i64 0) rfl).2
  have k11 := (HX4.out.2 11 (.slice none 0 0) rfl).1; have f11 := (HX4.out.2 11 (.slice none 0 0) rfl).2
  have HX9 := hid (HX4.out.put12 (.int .i64 5) (.int .i64 5) (.int .i64 1) (.int .i64 0) (.int .i64 4) (.int .i64 0) (.int .i64 4) (.int .i64 1) (.int .i64 1) (.int .i64 3) (.int .i64 3) (.slice (some ⟨wa.heap.size, 0, none⟩) 2 4))
  have HN9 := hid (near_put12 (S := fun k => k = w.heap.size) (Near.refl _ V4) rfl (.int .i64 5) (.int .i64 5) (.int .i64 1) (.int .i64 0) (.int .i64 4) (.int .i64 0) (.int .i64 4) (.int .i64 1) (.int .i64 1) (.int .i64 3) (.int .i64 3) (.slice (some ⟨wa.heap.size, 0, none⟩) 2 4))
  go_simp
  clear k0 f0 k1 f1 k2 f2 k3 f3 k4 f4 k5 f5 k6 f6 k7 f7 k8 f8 k9 f9 k10 f10 k11 f11
  generalize ((((((((((((V4.setCell ⟨w.heap.size, 0, none⟩ (.int .i64 5)).setCell ⟨w.heap.size, 1, none⟩ (.int .i64 5)).setCell ⟨w.heap.size, 2, none⟩ (.int .i64 1)).setCell ⟨w.heap.size, 3, none⟩ (.int .i64 0)).setCell ⟨w.heap.size, 4, none⟩ (.int .i64 4)).setCell ⟨w.heap.size, 5, none⟩ (.int .i64 0)).setCell ⟨w.heap.size, 6, none⟩ (.int .i64 4)).setCell ⟨w.heap.size, 7, none⟩ (.int .i64 1)).setCell ⟨w.heap.size, 8, none⟩ (.int .i64 1)).setCell ⟨w.heap.size, 9, none⟩ (.int .i64 3)).setCell ⟨w.heap.size, 10, none⟩ (.int .i64 3)).setCell ⟨w.heap.size, 11, none⟩ (.slice (some ⟨wa.heap.size, 0, none⟩) 2 4)) = V9 at HX9 HN9 ⊢
  refine hK.out _ _ (trivial) (fun hS => ?_)
  clear hK K
  try simp only [List.setIfInBounds_toArray, List.set_cons_zero, List.set_cons_succ]
  refine wpAnyH_done (by kernel_rfl) ?_ _
  go_wp2_with fail
  have y0 := (HX9.out.2 0 (.int .i64 5) rfl).1
  have y1 := (HX9.out.2 1 (.int .i64 5) rfl).1
  have y2 := (HX9.out.2 2 (.int .i64 1) rfl).1
  have y3 := (HX9.out.2 3 (.int .i64 0) rfl).1
  have y4 := (HX9.out.2 4 (.int .i64 4) rfl).1
  have y5 := (HX9.out.2 5 (.int .i64 0) rfl).1
  have y6 := (HX9.out.2 6 (.int .i64 4) rfl).1
  have y7 := (HX9.out.2 7 (.int .i64 1) rfl).1
  have y8 := (HX9.out.2 8 (.int .i64 1) rfl).1
  have y9 := (HX9.out.2 9 (.int .i64 3) rfl).1
  have y10 := (HX9.out.2 10 (.int .i64 3) rfl).1
  have y11 := (HX9.out.2 11 (.slice (some ⟨wa.heap.size, 0, none⟩) 2 4) rfl).1
  refine bodyPost_ret (v := .agg #[.int .i64 5, .int .i64 5, .int .i64 1, .int .i64 0, .int .i64 4, .int .i64 0, .int .i64 4, .int .i64 1, .int .i64 1, .int .i64 3, .int .i64 3, .slice (some ⟨wa.heap.size, 0, none⟩) 2 4]) (by simp [results, Try.f68, go_sem, y0, y1, y2, y3, y4, y5, y6, y7, y8, y9, y10, y11]) rfl ?_
  refine ⟨wa.heap.size, rfl, crds_iff.2 ((((HC1.out.take (k := 2) (by decide)).below ((Below.refl _ _).drew.trans HD4.out)).near HN9.out (fun a ha _ hs => by cases ha; have := HZA.out; have h2 : wa.heap.size = w.heap.size := hs; omega))), ?_⟩
  have hb4 := HBW.out.trans (HD4.out.mono (by have := HBW.out.size; omega))
  exact hb4.trans (HN9.out.below hb4.size (fun k h1 h2 => by omega))

set_option maxRecDepth 40000 in
set_option maxHeartbeats 8000000 in
theorem five3_any (w : World) : Calls Try.prog 68 #[.int .i64 3] w (FivePost 3 w) := by
  have HXS := hid (BoxIs.start w #[.int .i64 0, .int .i64 0, .int .i64 0, .int .i64 0, .int .i64 0, .int .i64 0, .int .i64 0, .int .i64 0, .int .i64 0, .int .i64 0, .int .i64 0, .slice none 0 0] 35)
  have HBS : Hid (Below w.heap.size w (w.alloc (.cells #[.int .i64 0, .int .i64 0, .int .i64 0, .int .i64 0, .int .i64 0, .int .i64 0, .int .i64 0, .int .i64 0, .int .i64 0, .int .i64 0, .int .i64 0, .slice none 0 0] 35))) := hid ((Below.refl _ _).alloc (Nat.le_refl _) _)
  go_enter Try.func68, Try.ntmps68
  go_wp2_with fail
  (with_reducible refine (between_any 0 0 _).mono ?_)
  rintro e w1 ⟨rfl, hb⟩
  have HX0a := hid (HXS.out.below hb); have HB0a := hid (HBS.out.trans (hb.mono HBS.out.size))
  clear hb
  go_wp2_with fail
  (with_reducible refine (between_any 1 1 _).mono ?_)
  rintro e w2 ⟨rfl, hb⟩
  have HX1a := hid (HX0a.out.below hb); have HB1a := hid (HB0a.out.trans (hb.mono HB0a.out.size))
  clear hb
  go_wp2_with fail
  (with_reducible refine (between_any 3 3 _).mono ?_)
  rintro e w3 ⟨rfl, hb⟩
  have HX2a := hid (HX1a.out.below hb); have HB2a := hid (HB1a.out.trans (hb.mono HB1a.out.size))
  clear hb
  go_wp2_with fail
  (with_reducible refine (between_any 4 4 _).mono ?_)
  rintro e w4 ⟨rfl, hb⟩
  have HX3a := hid (HX2a.out.below hb); have HB3a := hid (HB2a.out.trans (hb.mono HB2a.out.size))
  clear hb
  go_wp2_with fail
  (with_reducible refine (between_any 3 3 _).mono ?_)
  rintro e w5 ⟨rfl, hb⟩
  have HX4a := hid (HX3a.out.below hb); have HB4a := hid (HB3a.out.trans (hb.mono HB3a.out.size))
  clear hb
  go_wp2_with fail
  (with_reducible refine (between_any 2 3 _).mono ?_)
  rintro e w6 ⟨rfl, hb⟩
  have HX5a := hid (HX4a.out.below hb); have HB5a := hid (HB4a.out.trans (hb.mono HB4a.out.size))
  clear hb
  go_wp2_with fail
  (with_reducible refine (between_any 2 2 _).mono ?_)
  rintro e w7 ⟨rfl, hb⟩
  have HX6a := hid (HX5a.out.below hb); have HB6a := hid (HB5a.out.trans (hb.mono HB5a.out.size))
  clear hb
  go_wp2_with fail
  (with_reducible refine (between_any 3 3 _).mono ?_)
  rintro e w8 ⟨rfl, hb⟩
  have HX7a := hid (HX6a.out.below hb); have HB7a := hid (HB6a.out.trans (hb.mono HB6a.out.size))
  clear hb
  go_wp2_with fail
  (with_reducible refine (between_any 2 2 _).mono ?_)
  rintro e w9 ⟨rfl, hb⟩
  have HX8a := hid (HX7a.out.below hb); have HB8a := hid (HB7a.out.trans (hb.mono HB7a.out.size))
  clear hb
  go_wp2_with fail
  (with_reducible refine (between_any 2 2 _).mono ?_)
  rintro e wa ⟨rfl, hb⟩
  have HX9a := hid (HX8a.out.below hb); have HB9a := hid (HB8a.out.trans (hb.mono HB8a.out.size))
  clear hb
  have HZA : Hid (w.heap.size < wa.heap.size) := hid HX9a.out.1
  obtain ⟨W1, hW1⟩ : ∃ V, wa.alloc (.cells #[.int .i64 0, .int .i64 0, .int .i64 1, .int .i64 1, .bool true, .int .i64 3, .int .i64 3, .int .i64 4, .int .i64 4, .int .i64 3, .int .i64 3, .bool true, .int .i64 2, .int .i64 3, .int .i64 2, .int .i64 2, .int .i64 3, .int .i64 3, .bool false, .int .i64 0, .int .i64 0, .int .i64 2, .int .i64 2, .int .i64 2, .int .i64 2, .bool false, .int .i64 0, .int .i64 0] 119) = V := ⟨_, rfl⟩
  have HC1 : Hid (RowsAt cellsK 7 W1 (some ⟨wa.heap.size, 0, none⟩) 4 card4) := by show RowsAt _ _ _ _ _ _; rw [← hW1]; exact lit_rows cellsK_len card4 wa 119
  have hba : Below wa.heap.size wa W1 := by rw [← hW1]; exact (Below.refl _ _).alloc (Nat.le_refl _) _
  have HX0 := hid ((HX9a.out.below hba).below (Below.refl _ _).drew)
  have HBW : Hid (Below w.heap.size w W1.drew) := hid ((HB9a.out.trans (hba.mono HB9a.out.size)).drew)
  have HD0 : Hid (Below W1.drew.heap.size W1.drew W1.drew) := hid (Below.refl _ _)
  clear hba
  go_upto_region 2 with fail
  clear hW1
  refine wp_region_held_drew (S := fun V => True) (by kernel_rfl) (trivial) (fun hS => ?_)
  simp only [List.size_toArray, List.length_cons, List.length_nil, Nat.reduceAdd, Array.replicate_succ, Array.replicate_zero, List.push_toArray, List.nil_append, List.cons_append]
  refine tkH (i := 4) (v := ?_) (fun V hV => ?_) ?_
  rotate_left
  · go_simp
    try with_reducible rfl
  try simp only [Act.put, List.getElem_toArray, List.getElem_cons_zero, List.getElem_cons_succ, List.setIfInBounds_toArray, List.set_cons_zero, List.set_cons_succ]
  refine tkH (i := 5) (v := ?_) (fun V hV => ?_) ?_
  rotate_left
  · go_simp
    try with_reducible rfl
  try simp only [Act.put, List.getElem_toArray, List.getElem_cons_zero, List.getElem_cons_succ, List.setIfInBounds_toArray, List.set_cons_zero, List.set_cons_succ]
  refine tkH (i := 6) (v := ?_) (fun V hV => ?_) ?_
  rotate_left
  · go_simp
    try with_reducible rfl
  try simp only [Act.put, List.getElem_toArray, List.getElem_cons_zero, List.getElem_cons_succ, List.setIfInBounds_toArray, List.set_cons_zero, List.set_cons_succ]
  refine wpAnyH_ready (rs := [0]) (by kernel_rfl) (by simp) ?_
  refine AllReadyH.cons (o := _) rfl (fun K hK => ?_) AllReadyH.nil
  go_simp
  (with_reducible refine (between_any 0 4 _).mono ?_)
  rintro e V1 ⟨rfl, hb⟩
  have HX1 := hid (HX0.out.below hb)
  have HD1 := hid (HD0.out.trans (hb.mono HD0.out.size))
  refine hK.out _ _ (trivial) (fun hS => ?_)
  clear hK K
  try simp only [List.setIfInBounds_toArray, List.set_cons_zero]
  refine wpAnyH_ready (rs := [1]) (by kernel_rfl) (by simp) ?_
  refine AllReadyH.cons (o := _) rfl (fun K hK => ?_) AllReadyH.nil
  go_simp
  (with_reducible refine (between_any 0 4 _).mono ?_)
  rintro e V2 ⟨rfl, hb⟩
  have HX2 := hid (HX1.out.below hb)
  have HD2 := hid (HD1.out.trans (hb.mono HD1.out.size))
  refine hK.out _ _ (trivial) (fun hS => ?_)
  clear hK K
  try simp only [List.setIfInBounds_toArray, List.set_cons_zero, List.set_cons_succ]
  refine wpAnyH_ready (rs := [2]) (by kernel_rfl) (by simp) ?_
  refine AllReadyH.cons (o := _) rfl (fun K hK => ?_) AllReadyH.nil
  go_simp
  (with_reducible refine (between_any 1 1 _).mono ?_)
  rintro e V3 ⟨rfl, hb⟩
  have HX3 := hid (HX2.out.below hb)
  have HD3 := hid (HD2.out.trans (hb.mono HD2.out.size))
  refine hK.out _ _ (trivial) (fun hS => ?_)
  clear hK K
  try simp only [List.setIfInBounds_toArray, List.set_cons_zero, List.set_cons_succ]
  refine wpAnyH_ready (rs := [3]) (by kernel_rfl) (by simp) ?_
  refine AllReadyH.cons (o := _) rfl (fun K hK => ?_) AllReadyH.nil
  go_simp
  (with_reducible refine (between_any 3 3 _).mono ?_)
  rintro e V4 ⟨rfl, hb⟩
  have HX4 := hid (HX3.out.below hb)
  have HD4 := hid (HD3.out.trans (hb.mono HD3.out.size))
  refine hK.out _ _ (trivial) (fun hS => ?_)
  clear hK K
  try simp only [List.setIfInBounds_toArray, List.set_cons_zero, List.set_cons_succ]
  refine tkH (i := 7) (v := ?_) (fun V hV => ?_) ?_
  rotate_left
  · go_simp
    try with_reducible rfl
  try simp only [Act.put, List.getElem_toArray, List.getElem_cons_zero, List.getElem_cons_succ, List.setIfInBounds_toArray, List.set_cons_zero, List.set_cons_succ]
  refine wpAnyH_ready (rs := [8]) (by kernel_rfl) (by simp) ?_
  refine AllReadyH.cons (o := _) rfl (fun K hK => ?_) AllReadyH.nil
  have k0 := (HX4.out.2 0 (.int .i64 0) rfl).1; have f0 := (HX4.out.2 0 (.int .i64 0) rfl).2
  have k1 := (HX4.out.2 1 (.int .i64 0) rfl).1; have f1 := (HX4.out.2 1 (.int .i64 0) rfl).2
  have k2 := (HX4.out.2 2 (.int .i64 0) rfl).1; have f2 := (HX4.out.2 2 (.int .i64 0) rfl).2
  have k3 := (HX4.out.2 3 (.int .i64 0) rfl).1; have f3 := (HX4.out.2 3 (.int .i64 0) rfl).2
  have k4 := (HX4.out.2 4 (.int .i64 0) rfl).1; have f4 := (HX4.out.2 4 (.int .i64 0) rfl).2
  have k5 := (HX4.out.2 5 (.int .i64 0) rfl).1; have f5 := (HX4.out.2 5 (.int .i64 0) rfl).2
  have k6 := (HX4.out.2 6 (.int .i64 0) rfl).1; have f6 := (HX4.out.2 6 (.int .i64 0) rfl).2
  have k7 := (HX4.out.2 7 (.int .i64 0) rfl).1; have f7 := (HX4.out.2 7 (.int .i64 0) rfl).2
  have k8 := (HX4.out.2 8 (.int .i64 0) rfl).1; have f8 := (HX4.out.2 8 (.int .i64 0) rfl).2
  have k9 := (HX4.out.2 9 (.int .i64 0) rfl).1; have f9 := (HX4.out.2 9 (.int .i64 0) rfl).2
  have k10 := (HX4.out.2 10 (.int .i64 0) rfl).1; have f10 := (HX4.out.2 10 (.int .i64 0) rfl).2
  have k11 := (HX4.out.2 11 (.slice none 0 0) rfl).1; have f11 := (HX4.out.2 11 (.slice none 0 0) rfl).2
  have HX9 := hid (HX4.out.put12 (.int .i64 5) (.int .i64 5) (.int .i64 1) (.int .i64 0) (.int .i64 4) (.int .i64 0) (.int .i64 4) (.int .i64 1) (.int .i64 1) (.int .i64 3) (.int .i64 3) (.slice (some ⟨wa.heap.size, 0, none⟩) 3 4))
  have HN9 := hid (near_put12 (S := fun k => k = w.heap.size) (Near.refl _ V4) rfl (.int .i64 5) (.int .i64 5) (.int .i64 1) (.int .i64 0) (.int .i64 4) (.int .i64 0) (.int .i64 4) (.int .i64 1) (.int .i64 1) (.int .i64 3) (.int .i64 3) (.slice (some ⟨wa.heap.size, 0, none⟩) 3 4))
  go_simp
  clear k0 f0 k1 f1 k2 f2 k3 f3 k4 f4 k5 f5 k6 f6 k7 f7 k8 f8 k9 f9 k10 f10 k11 f11
  generalize ((((((((((((V4.setCell ⟨w.heap.size, 0, none⟩ (.int .i64 5)).setCell ⟨w.heap.size, 1, none⟩ (.int .i64 5)).setCell ⟨w.heap.size, 2, none⟩ (.int .i64 1)).setCell ⟨w.heap.size, 3, none⟩ (.int .i64 0)).setCell ⟨w.heap.size, 4, none⟩ (.int .i64 4)).setCell ⟨w.heap.size, 5, none⟩ (.int .i64 0)).setCell ⟨w.heap.size, 6, none⟩ (.int .i64 4)).setCell ⟨w.heap.size, 7, none⟩ (.int .i64 1)).setCell ⟨w.heap.size, 8, none⟩ (.int .i64 1)).setCell ⟨w.heap.size, 9, none⟩ (.int .i64 3)).setCell ⟨w.heap.size, 10, none⟩ (.int .i64 3)).setCell ⟨w.heap.size, 11, none⟩ (.slice (some ⟨wa.heap.size, 0, none⟩) 3 4)) = V9 at HX9 HN9 ⊢
  refine hK.out _ _ (trivial) (fun hS => ?_)
  clear hK K
  try simp only [List.setIfInBounds_toArray, List.set_cons_zero, List.set_cons_succ]
  refine wpAnyH_done (by kernel_rfl) ?_ _
  go_wp2_with fail
  have y0 := (HX9.out.2 0 (.int .i64 5) rfl).1
  have y1 := (HX9.out.2 1 (.int .i64 5) rfl).1
  have y2 := (HX9.out.2 2 (.int .i64 1) rfl).1
  have y3 := (HX9.out.2 3 (.int .i64 0) rfl).1
  have y4 := (HX9.out.2 4 (.int .i64 4) rfl).1
  have y5 := (HX9.out.2 5 (.int .i64 0) rfl).1
  have y6 := (HX9.out.2 6 (.int .i64 4) rfl).1
  have y7 := (HX9.out.2 7 (.int .i64 1) rfl).1
  have y8 := (HX9.out.2 8 (.int .i64 1) rfl).1
  have y9 := (HX9.out.2 9 (.int .i64 3) rfl).1
  have y10 := (HX9.out.2 10 (.int .i64 3) rfl).1
  have y11 := (HX9.out.2 11 (.slice (some ⟨wa.heap.size, 0, none⟩) 3 4) rfl).1
  refine bodyPost_ret (v := .agg #[.int .i64 5, .int .i64 5, .int .i64 1, .int .i64 0, .int .i64 4, .int .i64 0, .int .i64 4, .int .i64 1, .int .i64 1, .int .i64 3, .int .i64 3, .slice (some ⟨wa.heap.size, 0, none⟩) 3 4]) (by simp [results, Try.f68, go_sem, y0, y1, y2, y3, y4, y5, y6, y7, y8, y9, y10, y11]) rfl ?_
  refine ⟨wa.heap.size, rfl, crds_iff.2 ((((HC1.out.take (k := 3) (by decide)).below ((Below.refl _ _).drew.trans HD4.out)).near HN9.out (fun a ha _ hs => by cases ha; have := HZA.out; have h2 : wa.heap.size = w.heap.size := hs; omega))), ?_⟩
  have hb4 := HBW.out.trans (HD4.out.mono (by have := HBW.out.size; omega))
  exact hb4.trans (HN9.out.below hb4.size (fun k h1 h2 => by omega))

set_option maxRecDepth 40000 in
set_option maxHeartbeats 8000000 in
theorem five4_any (w : World) : Calls Try.prog 68 #[.int .i64 4] w (FivePost 4 w) := by
  have HXS := hid (BoxIs.start w #[.int .i64 0, .int .i64 0, .int .i64 0, .int .i64 0, .int .i64 0, .int .i64 0, .int .i64 0, .int .i64 0, .int .i64 0, .int .i64 0, .int .i64 0, .slice none 0 0] 35)
  have HBS : Hid (Below w.heap.size w (w.alloc (.cells #[.int .i64 0, .int .i64 0, .int .i64 0, .int .i64 0, .int .i64 0, .int .i64 0, .int .i64 0, .int .i64 0, .int .i64 0, .int .i64 0, .int .i64 0, .slice none 0 0] 35))) := hid ((Below.refl _ _).alloc (Nat.le_refl _) _)
  go_enter Try.func68, Try.ntmps68
  go_wp2_with fail
  (with_reducible refine (between_any 0 0 _).mono ?_)
  rintro e w1 ⟨rfl, hb⟩
  have HX0a := hid (HXS.out.below hb); have HB0a := hid (HBS.out.trans (hb.mono HBS.out.size))
  clear hb
  go_wp2_with fail
  (with_reducible refine (between_any 1 1 _).mono ?_)
  rintro e w2 ⟨rfl, hb⟩
  have HX1a := hid (HX0a.out.below hb); have HB1a := hid (HB0a.out.trans (hb.mono HB0a.out.size))
  clear hb
  go_wp2_with fail
  (with_reducible refine (between_any 3 3 _).mono ?_)
  rintro e w3 ⟨rfl, hb⟩
  have HX2a := hid (HX1a.out.below hb); have HB2a := hid (HB1a.out.trans (hb.mono HB1a.out.size))
  clear hb
  go_wp2_with fail
  (with_reducible refine (between_any 4 4 _).mono ?_)
  rintro e w4 ⟨rfl, hb⟩
  have HX3a := hid (HX2a.out.below hb); have HB3a := hid (HB2a.out.trans (hb.mono HB2a.out.size))
  clear hb
  go_wp2_with fail
  (with_reducible refine (between_any 3 3 _).mono ?_)
  rintro e w5 ⟨rfl, hb⟩
  have HX4a := hid (HX3a.out.below hb); have HB4a := hid (HB3a.out.trans (hb.mono HB3a.out.size))
  clear hb
  go_wp2_with fail
  (with_reducible refine (between_any 2 3 _).mono ?_)
  rintro e w6 ⟨rfl, hb⟩
  have HX5a := hid (HX4a.out.below hb); have HB5a := hid (HB4a.out.trans (hb.mono HB4a.out.size))
  clear hb
  go_wp2_with fail
  (with_reducible refine (between_any 2 2 _).mono ?_)
  rintro e w7 ⟨rfl, hb⟩
  have HX6a := hid (HX5a.out.below hb); have HB6a := hid (HB5a.out.trans (hb.mono HB5a.out.size))
  clear hb
  go_wp2_with fail
  (with_reducible refine (between_any 3 3 _).mono ?_)
  rintro e w8 ⟨rfl, hb⟩
  have HX7a := hid (HX6a.out.below hb); have HB7a := hid (HB6a.out.trans (hb.mono HB6a.out.size))
  clear hb
  go_wp2_with fail
  (with_reducible refine (between_any 2 2 _).mono ?_)
  rintro e w9 ⟨rfl, hb⟩
  have HX8a := hid (HX7a.out.below hb); have HB8a := hid (HB7a.out.trans (hb.mono HB7a.out.size))
  clear hb
  go_wp2_with fail
  (with_reducible refine (between_any 2 2 _).mono ?_)
  rintro e wa ⟨rfl, hb⟩
  have HX9a := hid (HX8a.out.below hb); have HB9a := hid (HB8a.out.trans (hb.mono HB8a.out.size))
  clear hb
  have HZA : Hid (w.heap.size < wa.heap.size) := hid HX9a.out.1
  obtain ⟨W1, hW1⟩ : ∃ V, wa.alloc (.cells #[.int .i64 0, .int .i64 0, .int .i64 1, .int .i64 1, .bool true, .int .i64 3, .int .i64 3, .int .i64 4, .int .i64 4, .int .i64 3, .int .i64 3, .bool true, .int .i64 2, .int .i64 3, .int .i64 2, .int .i64 2, .int .i64 3, .int .i64 3, .bool false, .int .i64 0, .int .i64 0, .int .i64 2, .int .i64 2, .int .i64 2, .int .i64 2, .bool false, .int .i64 0, .int .i64 0] 119) = V := ⟨_, rfl⟩
  have HC1 : Hid (RowsAt cellsK 7 W1 (some ⟨wa.heap.size, 0, none⟩) 4 card4) := by show RowsAt _ _ _ _ _ _; rw [← hW1]; exact lit_rows cellsK_len card4 wa 119
  have hba : Below wa.heap.size wa W1 := by rw [← hW1]; exact (Below.refl _ _).alloc (Nat.le_refl _) _
  have HX0 := hid ((HX9a.out.below hba).below (Below.refl _ _).drew)
  have HBW : Hid (Below w.heap.size w W1.drew) := hid ((HB9a.out.trans (hba.mono HB9a.out.size)).drew)
  have HD0 : Hid (Below W1.drew.heap.size W1.drew W1.drew) := hid (Below.refl _ _)
  clear hba
  go_upto_region 2 with fail
  clear hW1
  refine wp_region_held_drew (S := fun V => True) (by kernel_rfl) (trivial) (fun hS => ?_)
  simp only [List.size_toArray, List.length_cons, List.length_nil, Nat.reduceAdd, Array.replicate_succ, Array.replicate_zero, List.push_toArray, List.nil_append, List.cons_append]
  refine tkH (i := 4) (v := ?_) (fun V hV => ?_) ?_
  rotate_left
  · go_simp
    try with_reducible rfl
  try simp only [Act.put, List.getElem_toArray, List.getElem_cons_zero, List.getElem_cons_succ, List.setIfInBounds_toArray, List.set_cons_zero, List.set_cons_succ]
  refine tkH (i := 5) (v := ?_) (fun V hV => ?_) ?_
  rotate_left
  · go_simp
    try with_reducible rfl
  try simp only [Act.put, List.getElem_toArray, List.getElem_cons_zero, List.getElem_cons_succ, List.setIfInBounds_toArray, List.set_cons_zero, List.set_cons_succ]
  refine tkH (i := 6) (v := ?_) (fun V hV => ?_) ?_
  rotate_left
  · go_simp
    try with_reducible rfl
  try simp only [Act.put, List.getElem_toArray, List.getElem_cons_zero, List.getElem_cons_succ, List.setIfInBounds_toArray, List.set_cons_zero, List.set_cons_succ]
  refine wpAnyH_ready (rs := [0]) (by kernel_rfl) (by simp) ?_
  refine AllReadyH.cons (o := _) rfl (fun K hK => ?_) AllReadyH.nil
  go_simp
  (with_reducible refine (between_any 0 4 _).mono ?_)
  rintro e V1 ⟨rfl, hb⟩
  have HX1 := hid (HX0.out.below hb)
  have HD1 := hid (HD0.out.trans (hb.mono HD0.out.size))
  refine hK.out _ _ (trivial) (fun hS => ?_)
  clear hK K
  try simp only [List.setIfInBounds_toArray, List.set_cons_zero]
  refine wpAnyH_ready (rs := [1]) (by kernel_rfl) (by simp) ?_
  refine AllReadyH.cons (o := _) rfl (fun K hK => ?_) AllReadyH.nil
  go_simp
  (with_reducible refine (between_any 0 4 _).mono ?_)
  rintro e V2 ⟨rfl, hb⟩
  have HX2 := hid (HX1.out.below hb)
  have HD2 := hid (HD1.out.trans (hb.mono HD1.out.size))
  refine hK.out _ _ (trivial) (fun hS => ?_)
  clear hK K
  try simp only [List.setIfInBounds_toArray, List.set_cons_zero, List.set_cons_succ]
  refine wpAnyH_ready (rs := [2]) (by kernel_rfl) (by simp) ?_
  refine AllReadyH.cons (o := _) rfl (fun K hK => ?_) AllReadyH.nil
  go_simp
  (with_reducible refine (between_any 1 1 _).mono ?_)
  rintro e V3 ⟨rfl, hb⟩
  have HX3 := hid (HX2.out.below hb)
  have HD3 := hid (HD2.out.trans (hb.mono HD2.out.size))
  refine hK.out _ _ (trivial) (fun hS => ?_)
  clear hK K
  try simp only [List.setIfInBounds_toArray, List.set_cons_zero, List.set_cons_succ]
  refine wpAnyH_ready (rs := [3]) (by kernel_rfl) (by simp) ?_
  refine AllReadyH.cons (o := _) rfl (fun K hK => ?_) AllReadyH.nil
  go_simp
  (with_reducible refine (between_any 3 3 _).mono ?_)
  rintro e V4 ⟨rfl, hb⟩
  have HX4 := hid (HX3.out.below hb)
  have HD4 := hid (HD3.out.trans (hb.mono HD3.out.size))
  refine hK.out _ _ (trivial) (fun hS => ?_)
  clear hK K
  try simp only [List.setIfInBounds_toArray, List.set_cons_zero, List.set_cons_succ]
  refine tkH (i := 7) (v := ?_) (fun V hV => ?_) ?_
  rotate_left
  · go_simp
    try with_reducible rfl
  try simp only [Act.put, List.getElem_toArray, List.getElem_cons_zero, List.getElem_cons_succ, List.setIfInBounds_toArray, List.set_cons_zero, List.set_cons_succ]
  refine wpAnyH_ready (rs := [8]) (by kernel_rfl) (by simp) ?_
  refine AllReadyH.cons (o := _) rfl (fun K hK => ?_) AllReadyH.nil
  have k0 := (HX4.out.2 0 (.int .i64 0) rfl).1; have f0 := (HX4.out.2 0 (.int .i64 0) rfl).2
  have k1 := (HX4.out.2 1 (.int .i64 0) rfl).1; have f1 := (HX4.out.2 1 (.int .i64 0) rfl).2
  have k2 := (HX4.out.2 2 (.int .i64 0) rfl).1; have f2 := (HX4.out.2 2 (.int .i64 0) rfl).2
  have k3 := (HX4.out.2 3 (.int .i64 0) rfl).1; have f3 := (HX4.out.2 3 (.int .i64 0) rfl).2
  have k4 := (HX4.out.2 4 (.int .i64 0) rfl).1; have f4 := (HX4.out.2 4 (.int .i64 0) rfl).2
  have k5 := (HX4.out.2 5 (.int .i64 0) rfl).1; have f5 := (HX4.out.2 5 (.int .i64 0) rfl).2
  have k6 := (HX4.out.2 6 (.int .i64 0) rfl).1; have f6 := (HX4.out.2 6 (.int .i64 0) rfl).2
  have k7 := (HX4.out.2 7 (.int .i64 0) rfl).1; have f7 := (HX4.out.2 7 (.int .i64 0) rfl).2
  have k8 := (HX4.out.2 8 (.int .i64 0) rfl).1; have f8 := (HX4.out.2 8 (.int .i64 0) rfl).2
  have k9 := (HX4.out.2 9 (.int .i64 0) rfl).1; have f9 := (HX4.out.2 9 (.int .i64 0) rfl).2
  have k10 := (HX4.out.2 10 (.int .i64 0) rfl).1; have f10 := (HX4.out.2 10 (.int .i64 0) rfl).2
  have k11 := (HX4.out.2 11 (.slice none 0 0) rfl).1; have f11 := (HX4.out.2 11 (.slice none 0 0) rfl).2
  have HX9 := hid (HX4.out.put12 (.int .i64 5) (.int .i64 5) (.int .i64 1) (.int .i64 0) (.int .i64 4) (.int .i64 0) (.int .i64 4) (.int .i64 1) (.int .i64 1) (.int .i64 3) (.int .i64 3) (.slice (some ⟨wa.heap.size, 0, none⟩) 4 4))
  have HN9 := hid (near_put12 (S := fun k => k = w.heap.size) (Near.refl _ V4) rfl (.int .i64 5) (.int .i64 5) (.int .i64 1) (.int .i64 0) (.int .i64 4) (.int .i64 0) (.int .i64 4) (.int .i64 1) (.int .i64 1) (.int .i64 3) (.int .i64 3) (.slice (some ⟨wa.heap.size, 0, none⟩) 4 4))
  go_simp
  clear k0 f0 k1 f1 k2 f2 k3 f3 k4 f4 k5 f5 k6 f6 k7 f7 k8 f8 k9 f9 k10 f10 k11 f11
  generalize ((((((((((((V4.setCell ⟨w.heap.size, 0, none⟩ (.int .i64 5)).setCell ⟨w.heap.size, 1, none⟩ (.int .i64 5)).setCell ⟨w.heap.size, 2, none⟩ (.int .i64 1)).setCell ⟨w.heap.size, 3, none⟩ (.int .i64 0)).setCell ⟨w.heap.size, 4, none⟩ (.int .i64 4)).setCell ⟨w.heap.size, 5, none⟩ (.int .i64 0)).setCell ⟨w.heap.size, 6, none⟩ (.int .i64 4)).setCell ⟨w.heap.size, 7, none⟩ (.int .i64 1)).setCell ⟨w.heap.size, 8, none⟩ (.int .i64 1)).setCell ⟨w.heap.size, 9, none⟩ (.int .i64 3)).setCell ⟨w.heap.size, 10, none⟩ (.int .i64 3)).setCell ⟨w.heap.size, 11, none⟩ (.slice (some ⟨wa.heap.size, 0, none⟩) 4 4)) = V9 at HX9 HN9 ⊢
  refine hK.out _ _ (trivial) (fun hS => ?_)
  clear hK K
  try simp only [List.setIfInBounds_toArray, List.set_cons_zero, List.set_cons_succ]
  refine wpAnyH_done (by kernel_rfl) ?_ _
  go_wp2_with fail
  have y0 := (HX9.out.2 0 (.int .i64 5) rfl).1
  have y1 := (HX9.out.2 1 (.int .i64 5) rfl).1
  have y2 := (HX9.out.2 2 (.int .i64 1) rfl).1
  have y3 := (HX9.out.2 3 (.int .i64 0) rfl).1
  have y4 := (HX9.out.2 4 (.int .i64 4) rfl).1
  have y5 := (HX9.out.2 5 (.int .i64 0) rfl).1
  have y6 := (HX9.out.2 6 (.int .i64 4) rfl).1
  have y7 := (HX9.out.2 7 (.int .i64 1) rfl).1
  have y8 := (HX9.out.2 8 (.int .i64 1) rfl).1
  have y9 := (HX9.out.2 9 (.int .i64 3) rfl).1
  have y10 := (HX9.out.2 10 (.int .i64 3) rfl).1
  have y11 := (HX9.out.2 11 (.slice (some ⟨wa.heap.size, 0, none⟩) 4 4) rfl).1
  refine bodyPost_ret (v := .agg #[.int .i64 5, .int .i64 5, .int .i64 1, .int .i64 0, .int .i64 4, .int .i64 0, .int .i64 4, .int .i64 1, .int .i64 1, .int .i64 3, .int .i64 3, .slice (some ⟨wa.heap.size, 0, none⟩) 4 4]) (by simp [results, Try.f68, go_sem, y0, y1, y2, y3, y4, y5, y6, y7, y8, y9, y10, y11]) rfl ?_
  refine ⟨wa.heap.size, rfl, crds_iff.2 ((((HC1.out.take (k := 4) (by decide)).below ((Below.refl _ _).drew.trans HD4.out)).near HN9.out (fun a ha _ hs => by cases ha; have := HZA.out; have h2 : wa.heap.size = w.heap.size := hs; omega))), ?_⟩
  have hb4 := HBW.out.trans (HD4.out.mono (by have := HBW.out.size; omega))
  exact hb4.trans (HN9.out.below hb4.size (fun k h1 h2 => by omega))
end Go.Proofs.Ytfnefkenheglhaa
