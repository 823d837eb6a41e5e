/- The chapter's storm with its cards' own block. No condition. -/
import Derived.Test.YtfnefkenheglhaaLawN0
import Derived.Test.YtfnefkenheglhaaP12
import Derived.Deep.OwnRows
namespace Go.Proofs.Ytfnefkenheglhaa
open Go.RowKit

theorem crds_box {b : Nat} {cs : Array Value} {W : World} (h : BoxIs b cs W) (l : List Crd) (r : List Value) (hl : cs.toList = l.flatMap cellsK ++ r) : CrdsAt W (some ⟨b, 0, none⟩) l.length l :=
  crds_iff.2 ⟨rfl, fun i c hi => ⟨b, 0, rfl, h.1, fun j v hj => by
    have h1 := flat_get cellsK_len l i j c v hi hj
    have h2 : cs[i * 7 + j]? = some v := by
      rw [← Array.getElem?_toList, hl, List.getElem?_append_left (List.getElem?_eq_some_iff.1 h1).1]; exact h1
    rw [show 0 + i * 7 + j = i * 7 + j by omega]; exact h.cell _ _ h2⟩⟩
def FiveC (w : World) : Ending → World → Prop := fun e w' => ∃ b, e = .returned (.agg #[.int .i64 5, .int .i64 5, .int .i64 1, .int .i64 0, .int .i64 4, .int .i64 0, .int .i64 4, .int .i64 1, .int .i64 1, .int .i64 3, .int .i64 3, .slice (some ⟨b, 0, none⟩) 3 4]) ∧ w.heap.size ≤ b ∧ BoxIs b #[.int .i64 0, .int .i64 0, .int .i64 1, .int .i64 1, .bool true, .int .i64 3, .int .i64 3, .int .i64 4, .int .i64 4, .int .i64 3, .int .i64 3, .bool true, .int .i64 2, .int .i64 3, .int .i64 2, .int .i64 2, .int .i64 3, .int .i64 3, .bool false, .int .i64 0, .int .i64 0, .int .i64 2, .int .i64 2, .int .i64 2, .int .i64 2, .bool false, .int .i64 0, .int .i64 0] w' ∧ Below w.heap.size w w'

set_option maxRecDepth 40000 in
set_option maxHeartbeats 8000000 in
theorem five3c_any (w : World) : Calls Try.prog 68 #[.int .i64 3] w (FiveC w) := by
  have HXS := hid (BoxIs.start w #[.int .i64 0, .int .i64 0, .int .i64 0, .int .i64 0, .int .i64 0, .int .i64 0, .int .i64 0, .int .i64 0, .int .i64 0, .int .i64 0, .int .i64 0, .slice none 0 0] 35)
  have HBS : Hid (Below w.heap.size w (w.alloc (.cells #[.int .i64 0, .int .i64 0, .int .i64 0, .int .i64 0, .int .i64 0, .int .i64 0, .int .i64 0, .int .i64 0, .int .i64 0, .int .i64 0, .int .i64 0, .slice none 0 0] 35))) := hid ((Below.refl _ _).alloc (Nat.le_refl _) _)
  go_enter Try.func68, Try.ntmps68
  go_wp2_with fail
  (with_reducible refine (between_any 0 0 _).mono ?_)
  rintro e w1 ⟨rfl, hb⟩
  have HX0a := hid (HXS.out.below hb); have HB0a := hid (HBS.out.trans (hb.mono HBS.out.size))
  clear hb
  go_wp2_with fail
  (with_reducible refine (between_any 1 1 _).mono ?_)
  rintro e w2 ⟨rfl, hb⟩
  have HX1a := hid (HX0a.out.below hb); have HB1a := hid (HB0a.out.trans (hb.mono HB0a.out.size))
  clear hb
  go_wp2_with fail
  (with_reducible refine (between_any 3 3 _).mono ?_)
  rintro e w3 ⟨rfl, hb⟩
  have HX2a := hid (HX1a.out.below hb); have HB2a := hid (HB1a.out.trans (hb.mono HB1a.out.size))
  clear hb
  go_wp2_with fail
  (with_reducible refine (between_any 4 4 _).mono ?_)
  rintro e w4 ⟨rfl, hb⟩
  have HX3a := hid (HX2a.out.below hb); have HB3a := hid (HB2a.out.trans (hb.mono HB2a.out.size))
  clear hb
  go_wp2_with fail
  (with_reducible refine (between_any 3 3 _).mono ?_)
  rintro e w5 ⟨rfl, hb⟩
  have HX4a := hid (HX3a.out.below hb); have HB4a := hid (HB3a.out.trans (hb.mono HB3a.out.size))
  clear hb
  go_wp2_with fail
  (with_reducible refine (between_any 2 3 _).mono ?_)
  rintro e w6 ⟨rfl, hb⟩
  have HX5a := hid (HX4a.out.below hb); have HB5a := hid (HB4a.out.trans (hb.mono HB4a.out.size))
  clear hb
  go_wp2_with fail
  (with_reducible refine (between_any 2 2 _).mono ?_)
  rintro e w7 ⟨rfl, hb⟩
  have HX6a := hid (HX5a.out.below hb); have HB6a := hid (HB5a.out.trans (hb.mono HB5a.out.size))
  clear hb
  go_wp2_with fail
  (with_reducible refine (between_any 3 3 _).mono ?_)
  rintro e w8 ⟨rfl, hb⟩
  have HX7a := hid (HX6a.out.below hb); have HB7a := hid (HB6a.out.trans (hb.mono HB6a.out.size))
  clear hb
  go_wp2_with fail
  (with_reducible refine (between_any 2 2 _).mono ?_)
  rintro e w9 ⟨rfl, hb⟩
  have HX8a := hid (HX7a.out.below hb); have HB8a := hid (HB7a.out.trans (hb.mono HB7a.out.size))
  clear hb
  go_wp2_with fail
  (with_reducible refine (between_any 2 2 _).mono ?_)
  rintro e wa ⟨rfl, hb⟩
  have HX9a := hid (HX8a.out.below hb); have HB9a := hid (HB8a.out.trans (hb.mono HB8a.out.size))
  clear hb
  have HZA : Hid (w.heap.size < wa.heap.size) := hid HX9a.out.1
  obtain ⟨W1, hW1⟩ : ∃ V, wa.alloc (.cells #[.int .i64 0, .int .i64 0, .int .i64 1, .int .i64 1, .bool true, .int .i64 3, .int .i64 3, .int .i64 4, .int .i64 4, .int .i64 3, .int .i64 3, .bool true, .int .i64 2, .int .i64 3, .int .i64 2, .int .i64 2, .int .i64 3, .int .i64 3, .bool false, .int .i64 0, .int .i64 0, .int .i64 2, .int .i64 2, .int .i64 2, .int .i64 2, .bool false, .int .i64 0, .int .i64 0] 119) = V := ⟨_, rfl⟩
  have HC1 : Hid (BoxIs wa.heap.size #[.int .i64 0, .int .i64 0, .int .i64 1, .int .i64 1, .bool true, .int .i64 3, .int .i64 3, .int .i64 4, .int .i64 4, .int .i64 3, .int .i64 3, .bool true, .int .i64 2, .int .i64 3, .int .i64 2, .int .i64 2, .int .i64 3, .int .i64 3, .bool false, .int .i64 0, .int .i64 0, .int .i64 2, .int .i64 2, .int .i64 2, .int .i64 2, .bool false, .int .i64 0, .int .i64 0] W1) := by show BoxIs _ _ _; rw [← hW1]; exact BoxIs.start _ _ _
  have hba : Below wa.heap.size wa W1 := by rw [← hW1]; exact (Below.refl _ _).alloc (Nat.le_refl _) _
  have HX0 := hid ((HX9a.out.below hba).below (Below.refl _ _).drew)
  have HBW : Hid (Below w.heap.size w W1.drew) := hid ((HB9a.out.trans (hba.mono HB9a.out.size)).drew)
  have HD0 : Hid (Below W1.drew.heap.size W1.drew W1.drew) := hid (Below.refl _ _)
  clear hba
  go_upto_region 2 with fail
  clear hW1
  refine wp_region_held_drew (S := fun V => True) (by kernel_rfl) (trivial) (fun hS => ?_)
  simp only [List.size_toArray, List.length_cons, List.length_nil, Nat.reduceAdd, Array.replicate_succ, Array.replicate_zero, List.push_toArray, List.nil_append, List.cons_append]
  refine wpAnyH_take (i := 4) (v := ?_) rfl (by kernel_rfl) (by kernel_rfl) (by kernel_rfl) (fun _ _ _ h => h) (Or.inl ⟨by rfl, fun V hV => ?_⟩) (by assumption) ?_
  rotate_left
  · go_simp
    try with_reducible rfl
  try simp only [Act.put, List.getElem_toArray, List.getElem_cons_zero, List.getElem_cons_succ, List.setIfInBounds_toArray, List.set_cons_zero, List.set_cons_succ]
  refine wpAnyH_take (i := 5) (v := ?_) rfl (by kernel_rfl) (by kernel_rfl) (by kernel_rfl) (fun _ _ _ h => h) (Or.inl ⟨by rfl, fun V hV => ?_⟩) (by assumption) ?_
  rotate_left
  · go_simp
    try with_reducible rfl
  try simp only [Act.put, List.getElem_toArray, List.getElem_cons_zero, List.getElem_cons_succ, List.setIfInBounds_toArray, List.set_cons_zero, List.set_cons_succ]
  refine wpAnyH_take (i := 6) (v := ?_) rfl (by kernel_rfl) (by kernel_rfl) (by kernel_rfl) (fun _ _ _ h => h) (Or.inl ⟨by rfl, fun V hV => ?_⟩) (by assumption) ?_
  rotate_left
  · go_simp
    try with_reducible rfl
  try simp only [Act.put, List.getElem_toArray, List.getElem_cons_zero, List.getElem_cons_succ, List.setIfInBounds_toArray, List.set_cons_zero, List.set_cons_succ]
  refine wpAnyH_ready (rs := [0]) (by kernel_rfl) (by simp) ?_
  refine AllReadyH.cons (o := _) rfl (fun K hK => ?_) AllReadyH.nil
  go_simp
  (with_reducible refine (between_any 0 4 _).mono ?_)
  rintro e V1 ⟨rfl, hb⟩
  have HX1 := hid (HX0.out.below hb)
  have HD1 := hid (HD0.out.trans (hb.mono HD0.out.size))
  refine hK.out _ _ (trivial) (fun hS => ?_)
  clear hK K
  try simp only [List.setIfInBounds_toArray, List.set_cons_zero]
  refine wpAnyH_ready (rs := [1]) (by kernel_rfl) (by simp) ?_
  refine AllReadyH.cons (o := _) rfl (fun K hK => ?_) AllReadyH.nil
  go_simp
  (with_reducible refine (between_any 0 4 _).mono ?_)
  rintro e V2 ⟨rfl, hb⟩
  have HX2 := hid (HX1.out.below hb)
  have HD2 := hid (HD1.out.trans (hb.mono HD1.out.size))
  refine hK.out _ _ (trivial) (fun hS => ?_)
  clear hK K
  try simp only [List.setIfInBounds_toArray, List.set_cons_zero, List.set_cons_succ]
  refine wpAnyH_ready (rs := [2]) (by kernel_rfl) (by simp) ?_
  refine AllReadyH.cons (o := _) rfl (fun K hK => ?_) AllReadyH.nil
  go_simp
  (with_reducible refine (between_any 1 1 _).mono ?_)
  rintro e V3 ⟨rfl, hb⟩
  have HX3 := hid (HX2.out.below hb)
  have HD3 := hid (HD2.out.trans (hb.mono HD2.out.size))
  refine hK.out _ _ (trivial) (fun hS => ?_)
  clear hK K
  try simp only [List.setIfInBounds_toArray, List.set_cons_zero, List.set_cons_succ]
  refine wpAnyH_ready (rs := [3]) (by kernel_rfl) (by simp) ?_
  refine AllReadyH.cons (o := _) rfl (fun K hK => ?_) AllReadyH.nil
  go_simp
  (with_reducible refine (between_any 3 3 _).mono ?_)
  rintro e V4 ⟨rfl, hb⟩
  have HX4 := hid (HX3.out.below hb)
  have HD4 := hid (HD3.out.trans (hb.mono HD3.out.size))
  refine hK.out _ _ (trivial) (fun hS => ?_)
  clear hK K
  try simp only [List.setIfInBounds_toArray, List.set_cons_zero, List.set_cons_succ]
  refine wpAnyH_take (i := 7) (v := ?_) rfl (by kernel_rfl) (by kernel_rfl) (by kernel_rfl) (fun _ _ _ h => h) (Or.inl ⟨by rfl, fun V hV => ?_⟩) (by assumption) ?_
  rotate_left
  · go_simp
    try with_reducible rfl
  try simp only [Act.put, List.getElem_toArray, List.getElem_cons_zero, List.getElem_cons_succ, List.setIfInBounds_toArray, List.set_cons_zero, List.set_cons_succ]
  refine wpAnyH_ready (rs := [8]) (by kernel_rfl) (by simp) ?_
  refine AllReadyH.cons (o := _) rfl (fun K hK => ?_) AllReadyH.nil
  have k0 := (HX4.out.2 0 (.int .i64 0) rfl).1; have f0 := (HX4.out.2 0 (.int .i64 0) rfl).2
  have k1 := (HX4.out.2 1 (.int .i64 0) rfl).1; have f1 := (HX4.out.2 1 (.int .i64 0) rfl).2
  have k2 := (HX4.out.2 2 (.int .i64 0) rfl).1; have f2 := (HX4.out.2 2 (.int .i64 0) rfl).2
  have k3 := (HX4.out.2 3 (.int .i64 0) rfl).1; have f3 := (HX4.out.2 3 (.int .i64 0) rfl).2
  have k4 := (HX4.out.2 4 (.int .i64 0) rfl).1; have f4 := (HX4.out.2 4 (.int .i64 0) rfl).2
  have k5 := (HX4.out.2 5 (.int .i64 0) rfl).1; have f5 := (HX4.out.2 5 (.int .i64 0) rfl).2
  have k6 := (HX4.out.2 6 (.int .i64 0) rfl).1; have f6 := (HX4.out.2 6 (.int .i64 0) rfl).2
  have k7 := (HX4.out.2 7 (.int .i64 0) rfl).1; have f7 := (HX4.out.2 7 (.int .i64 0) rfl).2
  have k8 := (HX4.out.2 8 (.int .i64 0) rfl).1; have f8 := (HX4.out.2 8 (.int .i64 0) rfl).2
  have k9 := (HX4.out.2 9 (.int .i64 0) rfl).1; have f9 := (HX4.out.2 9 (.int .i64 0) rfl).2
  have k10 := (HX4.out.2 10 (.int .i64 0) rfl).1; have f10 := (HX4.out.2 10 (.int .i64 0) rfl).2
  have k11 := (HX4.out.2 11 (.slice none 0 0) rfl).1; have f11 := (HX4.out.2 11 (.slice none 0 0) rfl).2
  have HX9 := hid (HX4.out.put12 (.int .i64 5) (.int .i64 5) (.int .i64 1) (.int .i64 0) (.int .i64 4) (.int .i64 0) (.int .i64 4) (.int .i64 1) (.int .i64 1) (.int .i64 3) (.int .i64 3) (.slice (some ⟨wa.heap.size, 0, none⟩) 3 4))
  have HN9 := hid (near_put12 (S := fun k => k = w.heap.size) (Near.refl _ V4) rfl (.int .i64 5) (.int .i64 5) (.int .i64 1) (.int .i64 0) (.int .i64 4) (.int .i64 0) (.int .i64 4) (.int .i64 1) (.int .i64 1) (.int .i64 3) (.int .i64 3) (.slice (some ⟨wa.heap.size, 0, none⟩) 3 4))
  go_simp
  clear k0 f0 k1 f1 k2 f2 k3 f3 k4 f4 k5 f5 k6 f6 k7 f7 k8 f8 k9 f9 k10 f10 k11 f11
  generalize ((((((((((((V4.setCell ⟨w.heap.size, 0, none⟩ (.int .i64 5)).setCell ⟨w.heap.size, 1, none⟩ (.int .i64 5)).setCell ⟨w.heap.size, 2, none⟩ (.int .i64 1)).setCell ⟨w.heap.size, 3, none⟩ (.int .i64 0)).setCell ⟨w.heap.size, 4, none⟩ (.int .i64 4)).setCell ⟨w.heap.size, 5, none⟩ (.int .i64 0)).setCell ⟨w.heap.size, 6, none⟩ (.int .i64 4)).setCell ⟨w.heap.size, 7, none⟩ (.int .i64 1)).setCell ⟨w.heap.size, 8, none⟩ (.int .i64 1)).setCell ⟨w.heap.size, 9, none⟩ (.int .i64 3)).setCell ⟨w.heap.size, 10, none⟩ (.int .i64 3)).setCell ⟨w.heap.size, 11, none⟩ (.slice (some ⟨wa.heap.size, 0, none⟩) 3 4)) = V9 at HX9 HN9 ⊢
  refine hK.out _ _ (trivial) (fun hS => ?_)
  clear hK K
  try simp only [List.setIfInBounds_toArray, List.set_cons_zero, List.set_cons_succ]
  refine wpAnyH_done (by kernel_rfl) ?_ _
  go_wp2_with fail
  have y0 := (HX9.out.2 0 (.int .i64 5) rfl).1
  have y1 := (HX9.out.2 1 (.int .i64 5) rfl).1
  have y2 := (HX9.out.2 2 (.int .i64 1) rfl).1
  have y3 := (HX9.out.2 3 (.int .i64 0) rfl).1
  have y4 := (HX9.out.2 4 (.int .i64 4) rfl).1
  have y5 := (HX9.out.2 5 (.int .i64 0) rfl).1
  have y6 := (HX9.out.2 6 (.int .i64 4) rfl).1
  have y7 := (HX9.out.2 7 (.int .i64 1) rfl).1
  have y8 := (HX9.out.2 8 (.int .i64 1) rfl).1
  have y9 := (HX9.out.2 9 (.int .i64 3) rfl).1
  have y10 := (HX9.out.2 10 (.int .i64 3) rfl).1
  have y11 := (HX9.out.2 11 (.slice (some ⟨wa.heap.size, 0, none⟩) 3 4) rfl).1
  refine bodyPost_ret (v := .agg #[.int .i64 5, .int .i64 5, .int .i64 1, .int .i64 0, .int .i64 4, .int .i64 0, .int .i64 4, .int .i64 1, .int .i64 1, .int .i64 3, .int .i64 3, .slice (some ⟨wa.heap.size, 0, none⟩) 3 4]) (by simp [results, Try.f68, go_sem, y0, y1, y2, y3, y4, y5, y6, y7, y8, y9, y10, y11]) rfl ?_
  have hb4 := HBW.out.trans (HD4.out.mono (by have := HBW.out.size; omega))
  exact ⟨wa.heap.size, rfl, Nat.le_of_lt HZA.out, (HC1.out.below ((Below.refl _ _).drew.trans HD4.out)).near HN9.out (fun hs => by have := HZA.out; have h2 : wa.heap.size = w.heap.size := hs; omega), hb4.trans (HN9.out.below hb4.size (fun k h1 h2 => by omega))⟩
theorem made7 : madeCells #[.int .i64 0, .int .i64 0, .int .i64 0, .int .i64 0, .bool false, .int .i64 0, .int .i64 0] 49 = ((List.replicate 7 (⟨⟨0, 0⟩, ⟨0, 0⟩, false, ⟨0, 0⟩⟩ : Crd)).flatMap cellsK).toArray := by
  first
    | kernel_rfl
    | decide +kernel
    | (simp [madeCells, cellsK, Array.range, Array.ofFn, List.range]; done)
    | (apply Array.ext'; simp [madeCells, cellsK, List.range, List.range.loop])
theorem make7 (W : World) : (Instr.makeSlice 33 (.int .i64 7) (.int .i64 7)).run Try.prog W = .ok (.slice (some ⟨W.heap.size, 0, none⟩) 7 7) (W.alloc (.cells ((List.replicate 7 (⟨⟨0, 0⟩, ⟨0, 0⟩, false, ⟨0, 0⟩⟩ : Crd)).flatMap cellsK).toArray 119)) := by
  obtain ⟨i, hi, hzz⟩ := Option.map_eq_some_iff.1 Try.info119
  simp only [Prod.mk.injEq] at hzz
  obtain ⟨hz, hs, hb⟩ := hzz
  have h := run_make (P := Try.prog) W 33 119 i _ Try.underlying33 hi hz .i64 .i64 7 7 (by omega) (by omega) (by rw [hb]; omega) (by omega)
  rw [hs] at h
  rw [← made7]; exact h
theorem BoxIs.more {b : Nat} {vs : Array Value} {W : World} (h : BoxIs b vs W) (o : Obj) : BoxIs b vs (W.alloc o) := h.below ((Below.refl _ _).alloc (Nat.le_refl _) o)
theorem seven_boxes {w W : World} {Z : Array Value} {T : TypeId} (h : (((((((w.alloc (.cells Z T)).alloc (.cells Z T)).alloc (.cells Z T)).alloc (.cells Z T)).alloc (.cells Z T)).alloc (.cells Z T)).alloc (.cells Z T)) = W) :
    BoxIs w.heap.size Z W ∧ BoxIs (w.heap.size + 1) Z W ∧ BoxIs (w.heap.size + 2) Z W ∧ BoxIs (w.heap.size + 3) Z W ∧ BoxIs (w.heap.size + 4) Z W ∧ BoxIs (w.heap.size + 5) Z W ∧ BoxIs (w.heap.size + 6) Z W ∧ Below w.heap.size w W := by
  have s := fun (W : World) => BoxIs.start W Z T
  have z : ∀ W : World, (W.alloc (.cells Z T)).heap.size = W.heap.size + 1 := fun W => World.size_alloc _ _
  have h1 := s (w.alloc (.cells Z T)); have h2 := s ((w.alloc (.cells Z T)).alloc (.cells Z T)); have h3 := s (((w.alloc (.cells Z T)).alloc (.cells Z T)).alloc (.cells Z T))
  have h4 := s ((((w.alloc (.cells Z T)).alloc (.cells Z T)).alloc (.cells Z T)).alloc (.cells Z T)); have h5 := s (((((w.alloc (.cells Z T)).alloc (.cells Z T)).alloc (.cells Z T)).alloc (.cells Z T)).alloc (.cells Z T)); have h6 := s ((((((w.alloc (.cells Z T)).alloc (.cells Z T)).alloc (.cells Z T)).alloc (.cells Z T)).alloc (.cells Z T)).alloc (.cells Z T))
  simp only [z, Nat.add_assoc, Nat.reduceAdd] at h1 h2 h3 h4 h5 h6
  subst h
  exact ⟨((((((s w).more _).more _).more _).more _).more _).more _, (((((h1.more _).more _).more _).more _).more _), ((((h2.more _).more _).more _).more _), (((h3.more _).more _).more _), (h4.more _).more _, h5.more _, h6,
    ((((((((Below.refl _ _).alloc (Nat.le_refl _) _).alloc (by simp only [z]; omega) _).alloc (by simp only [z]; omega) _).alloc (by simp only [z]; omega) _).alloc (by simp only [z]; omega) _).alloc (by simp only [z]; omega) _).alloc (by simp only [z]; omega) _)⟩
theorem near_setCells (b : Nat) : ∀ (vs : List Value) (o : Nat) (w : World), Near (fun i => i = b) w (w.setCells b o vs)
  | [], _, w => Near.refl _ w
  | v :: vs, o, w => by
    show Near _ w ((w.setCell ⟨b, o, none⟩ v).setCells b (o + 1) vs)
    exact ((Near.refl (fun i => i = b) w).setCell (p := ⟨b, o, none⟩) (fun _ => rfl) v).trans' (near_setCells b vs (o + 1) _) (fun _ _ h => h)
theorem BoxIs.there {b : Nat} {vs : Array Value} {W : World} (h : BoxIs b vs W) : W.there b 0 vs.size := fun j hj => by
  have h1 := h.2 j vs[j] (Array.getElem?_eq_getElem hj)
  rw [Nat.zero_add]
  exact ⟨by rw [h1.1]; rfl, h1.2⟩
theorem BoxIs.stored {b : Nat} {vs cs : Array Value} {W : World} (h : BoxIs b vs W) (hs : vs.size = cs.size) : BoxIs b cs (W.setCells b 0 cs.toList) := by
  have ht : W.there b 0 cs.toList.length := by rw [Array.length_toList, ← hs]; exact h.there
  have hn := near_setCells b cs.toList 0 W
  refine ⟨Nat.lt_of_lt_of_le h.1 hn.size, fun k v hk => ⟨?_, ?_⟩⟩
  · have h1 := World.rangeAt_setCells_same W b 0 cs.toList ht k v (by simpa using hk)
    rwa [Nat.zero_add] at h1
  · have h1 := (World.there_setCells ht b 0 cs.toList) k (by have := (Array.getElem?_eq_some_iff.1 hk).1; simpa using this)
    rw [Nat.zero_add] at h1
    exact h1.2
/-- A struct is stored into its box: at a plain region's list. -/
theorem store_box {ops : Array Oper} {rest : List Oper} {op : Oper} {a : Act} {w : World} {Q : Exit → Act → World → Prop} (hgd : op.guard = none) (ty : TypeId) (x y : Operand) (ho : op.op = .store ty x y)
    (b : Nat) (vs cells : Array Value) (hx : a.eval x = .pointer (some ⟨b, 0, none⟩)) (hy : a.eval y = .agg cells)
    (hb : BoxIs b vs w) (n : Nat) (hv : vs.size = n) (hc : cells.size = n) (hi : (Try.prog.info? ty).map (·.size) = some n) (h1 : cells.all (·.oneCell') = true)
    (h : ∀ w', BoxIs b cells w' → Near (fun i => i = b) w w' → wpList Try.prog ops Q rest (a.put op.dst undef) w') : wpList Try.prog ops Q (op :: rest) a w :=
  wpList_store_mid hgd ty x y ho b 0 cells hx hy (by rw [hc, ← hv]; exact hb.there) (by rw [hc]; exact hi) h1 (h _ (hb.stored (hv.trans hc.symm)) (near_setCells b cells.toList 0 w))
theorem BoxIs.far {b : Nat} {vs : Array Value} {W W' : World} {S : Nat → Prop} (h : BoxIs b vs W) (hn : Near S W W') (hS : ¬ S b) : BoxIs b vs W' :=
  ⟨Nat.lt_of_lt_of_le h.1 hn.size, fun k v hk => ⟨(hn.cell (p := ⟨b, k, none⟩) h.1 hS).trans (h.2 k v hk).1, (hn.frozen (p := ⟨b, k, none⟩) h.1 hS).trans (h.2 k v hk).2⟩⟩
end Go.Proofs.Ytfnefkenheglhaa
