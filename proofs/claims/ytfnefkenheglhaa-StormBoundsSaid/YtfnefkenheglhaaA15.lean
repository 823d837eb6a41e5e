/- The reference: the bounds of some truths. No condition. -/
import Derived.Test.YtfnefkenheglhaaA12
import Derived.Test.YtfnefkenheglhaaP12
namespace Go.Proofs.Ytfnefkenheglhaa
open Go.RowKit

set_option maxRecDepth 40000 in
set_option maxHeartbeats 16000000 in
theorem boundsR_any (q : Option Addr) (N d : Nat) (L : List Tru) (w : World) (hr : RowsAt cellsT 4 w q N L) (hN : N ≤ 100000) :
    Calls Try.prog 58 #[.slice q N d] w fun e w' => e = .returned (.tuple #[.agg #[.int .i64 (wideT (fun t => t.a) emptyR L).lo, .int .i64 (wideT (fun t => t.a) emptyR L).hi], .agg #[.int .i64 (wideT (fun t => t.b) emptyR L).lo, .int .i64 (wideT (fun t => t.b) emptyR L).hi], .agg #[.int .i64 (wideT (fun t => t.half) emptyR L).lo, .int .i64 (wideT (fun t => t.half) emptyR L).hi], .agg #[.int .i64 (wideT (fun t => t.peak) emptyR L).lo, .int .i64 (wideT (fun t => t.peak) emptyR L).hi]]) ∧ Below w.heap.size w w' := by
  have HR := hid hr; have HLE := hid hr.1
  clear hr
  obtain ⟨w0, hw0⟩ : ∃ V, ((((w).alloc (.cells #[.int .i64 0, .int .i64 0] 23)).alloc (.cells #[.int .i64 0, .int .i64 0] 23)).alloc (.cells #[.int .i64 0, .int .i64 0] 23)).alloc (.cells #[.int .i64 0, .int .i64 0] 23) = V := ⟨_, rfl⟩
  have HO0 : Hid (BoxIs (w.heap.size) #[.int .i64 0, .int .i64 0] w0) := by
    show BoxIs _ _ _
    have h := BoxIs.start (w) #[.int .i64 0, .int .i64 0] 23
    have h := h.below ((Below.refl _ _).alloc (Nat.le_refl _) (.cells #[.int .i64 0, .int .i64 0] 23))
    have h := h.below ((Below.refl _ _).alloc (Nat.le_refl _) (.cells #[.int .i64 0, .int .i64 0] 23))
    have h := h.below ((Below.refl _ _).alloc (Nat.le_refl _) (.cells #[.int .i64 0, .int .i64 0] 23))
    try simp only [World.size_alloc, Nat.add_assoc, Nat.reduceAdd] at h
    rw [hw0] at h
    exact h
  have HO1 : Hid (BoxIs (w.heap.size + 1) #[.int .i64 0, .int .i64 0] w0) := by
    show BoxIs _ _ _
    have h := BoxIs.start ((w).alloc (.cells #[.int .i64 0, .int .i64 0] 23)) #[.int .i64 0, .int .i64 0] 23
    have h := h.below ((Below.refl _ _).alloc (Nat.le_refl _) (.cells #[.int .i64 0, .int .i64 0] 23))
    have h := h.below ((Below.refl _ _).alloc (Nat.le_refl _) (.cells #[.int .i64 0, .int .i64 0] 23))
    try simp only [World.size_alloc] at h
    rw [hw0] at h
    exact h
  have HO2 : Hid (BoxIs (w.heap.size + 2) #[.int .i64 0, .int .i64 0] w0) := by
    show BoxIs _ _ _
    have h := BoxIs.start (((w).alloc (.cells #[.int .i64 0, .int .i64 0] 23)).alloc (.cells #[.int .i64 0, .int .i64 0] 23)) #[.int .i64 0, .int .i64 0] 23
    have h := h.below ((Below.refl _ _).alloc (Nat.le_refl _) (.cells #[.int .i64 0, .int .i64 0] 23))
    try simp only [World.size_alloc, Nat.add_assoc, Nat.reduceAdd] at h
    rw [hw0] at h
    exact h
  have HO3 : Hid (BoxIs (w.heap.size + 3) #[.int .i64 0, .int .i64 0] w0) := by
    show BoxIs _ _ _
    have h := BoxIs.start ((((w).alloc (.cells #[.int .i64 0, .int .i64 0] 23)).alloc (.cells #[.int .i64 0, .int .i64 0] 23)).alloc (.cells #[.int .i64 0, .int .i64 0] 23)) #[.int .i64 0, .int .i64 0] 23
    try simp only [World.size_alloc, Nat.add_assoc, Nat.reduceAdd] at h
    rw [hw0] at h
    exact h
  have HB0 : Hid (Below w.heap.size w w0) := hid (by rw [← hw0]; exact ((((Below.refl _ _).alloc (Nat.le_refl _) _).alloc (by simp) _).alloc (by simp; omega) _).alloc (by simp; omega) _)
  have HZ0 : Hid (w.heap.size + 3 < w0.heap.size) := hid HO3.out.1
  go_enter Try.func58, Try.ntmps58
  go_wp2_with fail
  refine (empty79_any _).mono ?_
  rintro e w1 ⟨rfl, hb⟩
  clear hw0
  have HB1 := hid (HB0.out.trans (hb.mono HB0.out.size))
  have HZ1 : Hid (w.heap.size + 3 < w1.heap.size) := hid (Nat.lt_of_lt_of_le HZ0.out hb.size)
  replace HO0 := hid (HO0.out.below hb)
  replace HO1 := hid (HO1.out.below hb)
  replace HO2 := hid (HO2.out.below hb)
  replace HO3 := hid (HO3.out.below hb)
  clear hb
  go_wp2_with fail
  refine (empty79_any _).mono ?_
  rintro e w2 ⟨rfl, hb⟩
  have HB2 := hid (HB1.out.trans (hb.mono HB1.out.size))
  have HZ2 : Hid (w.heap.size + 3 < w2.heap.size) := hid (Nat.lt_of_lt_of_le HZ1.out hb.size)
  replace HO0 := hid (HO0.out.below hb)
  replace HO1 := hid (HO1.out.below hb)
  replace HO2 := hid (HO2.out.below hb)
  replace HO3 := hid (HO3.out.below hb)
  clear hb
  go_wp2_with fail
  refine (empty79_any _).mono ?_
  rintro e w3 ⟨rfl, hb⟩
  have HB3 := hid (HB2.out.trans (hb.mono HB2.out.size))
  have HZ3 : Hid (w.heap.size + 3 < w3.heap.size) := hid (Nat.lt_of_lt_of_le HZ2.out hb.size)
  replace HO0 := hid (HO0.out.below hb)
  replace HO1 := hid (HO1.out.below hb)
  replace HO2 := hid (HO2.out.below hb)
  replace HO3 := hid (HO3.out.below hb)
  clear hb
  go_wp2_with fail
  refine (empty79_any _).mono ?_
  rintro e w4 ⟨rfl, hb⟩
  have HB4 := hid (HB3.out.trans (hb.mono HB3.out.size))
  have HZ4 : Hid (w.heap.size + 3 < w4.heap.size) := hid (Nat.lt_of_lt_of_le HZ3.out hb.size)
  replace HO0 := hid (HO0.out.below hb)
  replace HO1 := hid (HO1.out.below hb)
  replace HO2 := hid (HO2.out.below hb)
  replace HO3 := hid (HO3.out.below hb)
  clear hb
  obtain ⟨w5, hw5⟩ : ∃ V, ((((w4).alloc (.cells #[.int .i64 0, .int .i64 0] 23)).alloc (.cells #[.int .i64 0, .int .i64 0] 23)).alloc (.cells #[.int .i64 0, .int .i64 0] 23)).alloc (.cells #[.int .i64 0, .int .i64 0] 23) = V := ⟨_, rfl⟩
  have HE0 : Hid (BoxIs (w4.heap.size) #[.int .i64 0, .int .i64 0] w5) := by
    show BoxIs _ _ _
    have h := BoxIs.start (w4) #[.int .i64 0, .int .i64 0] 23
    have h := h.below ((Below.refl _ _).alloc (Nat.le_refl _) (.cells #[.int .i64 0, .int .i64 0] 23))
    have h := h.below ((Below.refl _ _).alloc (Nat.le_refl _) (.cells #[.int .i64 0, .int .i64 0] 23))
    have h := h.below ((Below.refl _ _).alloc (Nat.le_refl _) (.cells #[.int .i64 0, .int .i64 0] 23))
    try simp only [World.size_alloc, Nat.add_assoc, Nat.reduceAdd] at h
    rw [hw5] at h
    exact h
  have HE1 : Hid (BoxIs (w4.heap.size + 1) #[.int .i64 0, .int .i64 0] w5) := by
    show BoxIs _ _ _
    have h := BoxIs.start ((w4).alloc (.cells #[.int .i64 0, .int .i64 0] 23)) #[.int .i64 0, .int .i64 0] 23
    have h := h.below ((Below.refl _ _).alloc (Nat.le_refl _) (.cells #[.int .i64 0, .int .i64 0] 23))
    have h := h.below ((Below.refl _ _).alloc (Nat.le_refl _) (.cells #[.int .i64 0, .int .i64 0] 23))
    try simp only [World.size_alloc] at h
    rw [hw5] at h
    exact h
  have HE2 : Hid (BoxIs (w4.heap.size + 2) #[.int .i64 0, .int .i64 0] w5) := by
    show BoxIs _ _ _
    have h := BoxIs.start (((w4).alloc (.cells #[.int .i64 0, .int .i64 0] 23)).alloc (.cells #[.int .i64 0, .int .i64 0] 23)) #[.int .i64 0, .int .i64 0] 23
    have h := h.below ((Below.refl _ _).alloc (Nat.le_refl _) (.cells #[.int .i64 0, .int .i64 0] 23))
    try simp only [World.size_alloc, Nat.add_assoc, Nat.reduceAdd] at h
    rw [hw5] at h
    exact h
  have HE3 : Hid (BoxIs (w4.heap.size + 3) #[.int .i64 0, .int .i64 0] w5) := by
    show BoxIs _ _ _
    have h := BoxIs.start ((((w4).alloc (.cells #[.int .i64 0, .int .i64 0] 23)).alloc (.cells #[.int .i64 0, .int .i64 0] 23)).alloc (.cells #[.int .i64 0, .int .i64 0] 23)) #[.int .i64 0, .int .i64 0] 23
    try simp only [World.size_alloc, Nat.add_assoc, Nat.reduceAdd] at h
    rw [hw5] at h
    exact h
  have HB5 : Hid (Below w4.heap.size w4 w5) := hid (by rw [← hw5]; exact ((((Below.refl _ _).alloc (Nat.le_refl _) _).alloc (by simp) _).alloc (by simp; omega) _).alloc (by simp; omega) _)
  have x00 := (HE0.out.2 0 (.int .i64 0) rfl).1; have f00 := (HE0.out.2 0 (.int .i64 0) rfl).2; have x01 := (HE0.out.2 1 (.int .i64 0) rfl).1; have f01 := (HE0.out.2 1 (.int .i64 0) rfl).2; have x10 := (HE1.out.2 0 (.int .i64 0) rfl).1; have f10 := (HE1.out.2 0 (.int .i64 0) rfl).2; have x11 := (HE1.out.2 1 (.int .i64 0) rfl).1; have f11 := (HE1.out.2 1 (.int .i64 0) rfl).2; have x20 := (HE2.out.2 0 (.int .i64 0) rfl).1; have f20 := (HE2.out.2 0 (.int .i64 0) rfl).2; have x21 := (HE2.out.2 1 (.int .i64 0) rfl).1; have f21 := (HE2.out.2 1 (.int .i64 0) rfl).2; have x30 := (HE3.out.2 0 (.int .i64 0) rfl).1; have f30 := (HE3.out.2 0 (.int .i64 0) rfl).2; have x31 := (HE3.out.2 1 (.int .i64 0) rfl).1; have f31 := (HE3.out.2 1 (.int .i64 0) rfl).2
  go_upto_region 2 with fail
  clear hw5 x00 f00 x01 f01 x10 f10 x11 f11 x20 f20 x21 f21 x30 f30 x31 f31
  have HF0 : Hid (BoxIs (w4.heap.size) #[.int .i64 emptyR.lo, .int .i64 emptyR.hi] ((((((((w5.setCell ⟨w4.heap.size, 0, none⟩ (.int .i64 emptyR.lo)).setCell ⟨w4.heap.size, 1, none⟩ (.int .i64 emptyR.hi)).setCell ⟨w4.heap.size + 1, 0, none⟩ (.int .i64 emptyR.lo)).setCell ⟨w4.heap.size + 1, 1, none⟩ (.int .i64 emptyR.hi)).setCell ⟨w4.heap.size + 2, 0, none⟩ (.int .i64 emptyR.lo)).setCell ⟨w4.heap.size + 2, 1, none⟩ (.int .i64 emptyR.hi)).setCell ⟨w4.heap.size + 3, 0, none⟩ (.int .i64 emptyR.lo)).setCell ⟨w4.heap.size + 3, 1, none⟩ (.int .i64 emptyR.hi))) := hid ((((((((HE0.out.put (j := 0) (.int .i64 emptyR.lo)).put (j := 1) (.int .i64 emptyR.hi)).other (b' := w4.heap.size + 1) (k' := 0) (by omega) (.int .i64 emptyR.lo)).other (b' := w4.heap.size + 1) (k' := 1) (by omega) (.int .i64 emptyR.hi)).other (b' := w4.heap.size + 2) (k' := 0) (by omega) (.int .i64 emptyR.lo)).other (b' := w4.heap.size + 2) (k' := 1) (by omega) (.int .i64 emptyR.hi)).other (b' := w4.heap.size + 3) (k' := 0) (by omega) (.int .i64 emptyR.lo)).other (b' := w4.heap.size + 3) (k' := 1) (by omega) (.int .i64 emptyR.hi))
  have HF1 : Hid (BoxIs (w4.heap.size + 1) #[.int .i64 emptyR.lo, .int .i64 emptyR.hi] ((((((((w5.setCell ⟨w4.heap.size, 0, none⟩ (.int .i64 emptyR.lo)).setCell ⟨w4.heap.size, 1, none⟩ (.int .i64 emptyR.hi)).setCell ⟨w4.heap.size + 1, 0, none⟩ (.int .i64 emptyR.lo)).setCell ⟨w4.heap.size + 1, 1, none⟩ (.int .i64 emptyR.hi)).setCell ⟨w4.heap.size + 2, 0, none⟩ (.int .i64 emptyR.lo)).setCell ⟨w4.heap.size + 2, 1, none⟩ (.int .i64 emptyR.hi)).setCell ⟨w4.heap.size + 3, 0, none⟩ (.int .i64 emptyR.lo)).setCell ⟨w4.heap.size + 3, 1, none⟩ (.int .i64 emptyR.hi))) := hid ((((((((HE1.out.other (b' := w4.heap.size) (k' := 0) (by omega) (.int .i64 emptyR.lo)).other (b' := w4.heap.size) (k' := 1) (by omega) (.int .i64 emptyR.hi)).put (j := 0) (.int .i64 emptyR.lo)).put (j := 1) (.int .i64 emptyR.hi)).other (b' := w4.heap.size + 2) (k' := 0) (by omega) (.int .i64 emptyR.lo)).other (b' := w4.heap.size + 2) (k' := 1) (by omega) (.int .i64 emptyR.hi)).other (b' := w4.heap.size + 3) (k' := 0) (by omega) (.int .i64 emptyR.lo)).other (b' := w4.heap.size + 3) (k' := 1) (by omega) (.int .i64 emptyR.hi))
  have HF2 : Hid (BoxIs (w4.heap.size + 2) #[.int .i64 emptyR.lo, .int .i64 emptyR.hi] ((((((((w5.setCell ⟨w4.heap.size, 0, none⟩ (.int .i64 emptyR.lo)).setCell ⟨w4.heap.size, 1, none⟩ (.int .i64 emptyR.hi)).setCell ⟨w4.heap.size + 1, 0, none⟩ (.int .i64 emptyR.lo)).setCell ⟨w4.heap.size + 1, 1, none⟩ (.int .i64 emptyR.hi)).setCell ⟨w4.heap.size + 2, 0, none⟩ (.int .i64 emptyR.lo)).setCell ⟨w4.heap.size + 2, 1, none⟩ (.int .i64 emptyR.hi)).setCell ⟨w4.heap.size + 3, 0, none⟩ (.int .i64 emptyR.lo)).setCell ⟨w4.heap.size + 3, 1, none⟩ (.int .i64 emptyR.hi))) := hid ((((((((HE2.out.other (b' := w4.heap.size) (k' := 0) (by omega) (.int .i64 emptyR.lo)).other (b' := w4.heap.size) (k' := 1) (by omega) (.int .i64 emptyR.hi)).other (b' := w4.heap.size + 1) (k' := 0) (by omega) (.int .i64 emptyR.lo)).other (b' := w4.heap.size + 1) (k' := 1) (by omega) (.int .i64 emptyR.hi)).put (j := 0) (.int .i64 emptyR.lo)).put (j := 1) (.int .i64 emptyR.hi)).other (b' := w4.heap.size + 3) (k' := 0) (by omega) (.int .i64 emptyR.lo)).other (b' := w4.heap.size + 3) (k' := 1) (by omega) (.int .i64 emptyR.hi))
  have HF3 : Hid (BoxIs (w4.heap.size + 3) #[.int .i64 emptyR.lo, .int .i64 emptyR.hi] ((((((((w5.setCell ⟨w4.heap.size, 0, none⟩ (.int .i64 emptyR.lo)).setCell ⟨w4.heap.size, 1, none⟩ (.int .i64 emptyR.hi)).setCell ⟨w4.heap.size + 1, 0, none⟩ (.int .i64 emptyR.lo)).setCell ⟨w4.heap.size + 1, 1, none⟩ (.int .i64 emptyR.hi)).setCell ⟨w4.heap.size + 2, 0, none⟩ (.int .i64 emptyR.lo)).setCell ⟨w4.heap.size + 2, 1, none⟩ (.int .i64 emptyR.hi)).setCell ⟨w4.heap.size + 3, 0, none⟩ (.int .i64 emptyR.lo)).setCell ⟨w4.heap.size + 3, 1, none⟩ (.int .i64 emptyR.hi))) := hid ((((((((HE3.out.other (b' := w4.heap.size) (k' := 0) (by omega) (.int .i64 emptyR.lo)).other (b' := w4.heap.size) (k' := 1) (by omega) (.int .i64 emptyR.hi)).other (b' := w4.heap.size + 1) (k' := 0) (by omega) (.int .i64 emptyR.lo)).other (b' := w4.heap.size + 1) (k' := 1) (by omega) (.int .i64 emptyR.hi)).other (b' := w4.heap.size + 2) (k' := 0) (by omega) (.int .i64 emptyR.lo)).other (b' := w4.heap.size + 2) (k' := 1) (by omega) (.int .i64 emptyR.hi)).put (j := 0) (.int .i64 emptyR.lo)).put (j := 1) (.int .i64 emptyR.hi))
  have HB6 : Hid (Below w4.heap.size w4 ((((((((w5.setCell ⟨w4.heap.size, 0, none⟩ (.int .i64 emptyR.lo)).setCell ⟨w4.heap.size, 1, none⟩ (.int .i64 emptyR.hi)).setCell ⟨w4.heap.size + 1, 0, none⟩ (.int .i64 emptyR.lo)).setCell ⟨w4.heap.size + 1, 1, none⟩ (.int .i64 emptyR.hi)).setCell ⟨w4.heap.size + 2, 0, none⟩ (.int .i64 emptyR.lo)).setCell ⟨w4.heap.size + 2, 1, none⟩ (.int .i64 emptyR.hi)).setCell ⟨w4.heap.size + 3, 0, none⟩ (.int .i64 emptyR.lo)).setCell ⟨w4.heap.size + 3, 1, none⟩ (.int .i64 emptyR.hi))) := hid ((((((((HB5.out.setCell (p := ⟨w4.heap.size, 0, none⟩) (by show w4.heap.size ≤ w4.heap.size; omega) (.int .i64 emptyR.lo)).setCell (p := ⟨w4.heap.size, 1, none⟩) (by show w4.heap.size ≤ w4.heap.size; omega) (.int .i64 emptyR.hi)).setCell (p := ⟨w4.heap.size + 1, 0, none⟩) (by show w4.heap.size ≤ w4.heap.size + 1; omega) (.int .i64 emptyR.lo)).setCell (p := ⟨w4.heap.size + 1, 1, none⟩) (by show w4.heap.size ≤ w4.heap.size + 1; omega) (.int .i64 emptyR.hi)).setCell (p := ⟨w4.heap.size + 2, 0, none⟩) (by show w4.heap.size ≤ w4.heap.size + 2; omega) (.int .i64 emptyR.lo)).setCell (p := ⟨w4.heap.size + 2, 1, none⟩) (by show w4.heap.size ≤ w4.heap.size + 2; omega) (.int .i64 emptyR.hi)).setCell (p := ⟨w4.heap.size + 3, 0, none⟩) (by show w4.heap.size ≤ w4.heap.size + 3; omega) (.int .i64 emptyR.lo)).setCell (p := ⟨w4.heap.size + 3, 1, none⟩) (by show w4.heap.size ≤ w4.heap.size + 3; omega) (.int .i64 emptyR.hi))
  generalize ((((((((w5.setCell ⟨w4.heap.size, 0, none⟩ (.int .i64 emptyR.lo)).setCell ⟨w4.heap.size, 1, none⟩ (.int .i64 emptyR.hi)).setCell ⟨w4.heap.size + 1, 0, none⟩ (.int .i64 emptyR.lo)).setCell ⟨w4.heap.size + 1, 1, none⟩ (.int .i64 emptyR.hi)).setCell ⟨w4.heap.size + 2, 0, none⟩ (.int .i64 emptyR.lo)).setCell ⟨w4.heap.size + 2, 1, none⟩ (.int .i64 emptyR.hi)).setCell ⟨w4.heap.size + 3, 0, none⟩ (.int .i64 emptyR.lo)).setCell ⟨w4.heap.size + 3, 1, none⟩ (.int .i64 emptyR.hi)) = w6 at HF0 HF1 HF2 HF3 HB6 ⊢
  clear HE0 HE1 HE2 HE3 HB5
  go_wp2_with fail
  go_loopw [10] (fun i wr => ∃ k : Nat, k ≤ N ∧ i = .int .i64 k ∧ (BoxIs (w4.heap.size) #[.int .i64 (wideT (fun t => t.a) emptyR (L.take k)).lo, .int .i64 (wideT (fun t => t.a) emptyR (L.take k)).hi] wr ∧ BoxIs (w4.heap.size + 1) #[.int .i64 (wideT (fun t => t.b) emptyR (L.take k)).lo, .int .i64 (wideT (fun t => t.b) emptyR (L.take k)).hi] wr ∧ BoxIs (w4.heap.size + 2) #[.int .i64 (wideT (fun t => t.half) emptyR (L.take k)).lo, .int .i64 (wideT (fun t => t.half) emptyR (L.take k)).hi] wr ∧ BoxIs (w4.heap.size + 3) #[.int .i64 (wideT (fun t => t.peak) emptyR (L.take k)).lo, .int .i64 (wideT (fun t => t.peak) emptyR (L.take k)).hi] wr) ∧ Below w4.heap.size w4 wr) (fun i _ => N - (intOf i).toNat)
  case atStart => exact ⟨0, by omega, rfl, ⟨HF0.out, HF1.out, HF2.out, HF3.out⟩, HB6.out⟩
  case round =>
    obtain ⟨k, hk, rfl, ⟨h0, h1, h2, h3⟩, hb⟩ := hrel
    have HBr := hid hb
    have HBw := hid (HB4.out.trans (hb.mono HB4.out.size))
    have HZr : Hid (w4.heap.size + 3 < wr.heap.size) := hid h3.1
    by_cases hlt : k < N
    · obtain ⟨t, ht, b1, o1, rfl, hlt1, hc⟩ := (HR.out.below HBw.out).at hlt
      have hb1 : b1 < w4.heap.size := by
        obtain ⟨_, _, b2, o2, e2, hlt2, _⟩ := HR.out.at hlt
        cases e2; have := HB4.out.size; omega
      have HC : Hid (∀ V, Below w4.heap.size wr V → V.cell? ⟨b1, o1 + k * 4, none⟩ = some (.int .i64 t.a) ∧ V.cell? ⟨b1, o1 + k * 4 + 1, none⟩ = some (.int .i64 t.b) ∧ V.cell? ⟨b1, o1 + k * 4 + 2, none⟩ = some (.int .i64 t.half) ∧ V.cell? ⟨b1, o1 + k * 4 + 3, none⟩ = some (.int .i64 t.peak)) := fun V hV => by
        have kk : ∀ (o : Nat) (v : Value), wr.cell? ⟨b1, o, none⟩ = some v → V.cell? ⟨b1, o, none⟩ = some v := fun o v h => (hV.cell (p := ⟨b1, o, none⟩) hb1).trans h
        exact ⟨kk _ _ (hc 0 _ rfl), kk _ _ (hc 1 _ rfl), kk _ _ (hc 2 _ rfl), kk _ _ (hc 3 _ rfl)⟩
      have HN0 := hid (wideT_snoc (f := fun t => t.a) (r := emptyR) ht)
      have HN1 := hid (wideT_snoc (f := fun t => t.b) (r := emptyR) ht)
      have HN2 := hid (wideT_snoc (f := fun t => t.half) (r := emptyR) ht)
      have HN3 := hid (wideT_snoc (f := fun t => t.peak) (r := emptyR) ht)
      obtain ⟨r0, hr0⟩ : ∃ r, (wideT (fun t => t.a) emptyR (L.take k)) = r := ⟨_, rfl⟩
      rw [hr0] at HN0 h0
      have HX0 := hid h0
      obtain ⟨r1, hr1⟩ : ∃ r, (wideT (fun t => t.b) emptyR (L.take k)) = r := ⟨_, rfl⟩
      rw [hr1] at HN1 h1
      have HX1 := hid h1
      obtain ⟨r2, hr2⟩ : ∃ r, (wideT (fun t => t.half) emptyR (L.take k)) = r := ⟨_, rfl⟩
      rw [hr2] at HN2 h2
      have HX2 := hid h2
      obtain ⟨r3, hr3⟩ : ∃ r, (wideT (fun t => t.peak) emptyR (L.take k)) = r := ⟨_, rfl⟩
      rw [hr3] at HN3 h3
      have HX3 := hid h3
      clear ht hc hb h0 h1 h2 h3 hr0 hr1 hr2 hr3 hb1
      go_wp2_with fail
      refine wp_region_listed (S := fun l V => (Below w4.heap.size wr V ∧ w4.heap.size + 3 < V.heap.size) ∧ (l.getD 28 true = false → BoxIs (w4.heap.size) #[.int .i64 r0.lo, .int .i64 r0.hi] V) ∧ (l.getD 29 true = false → BoxIs (w4.heap.size + 1) #[.int .i64 r1.lo, .int .i64 r1.hi] V) ∧ (l.getD 30 true = false → BoxIs (w4.heap.size + 2) #[.int .i64 r2.lo, .int .i64 r2.hi] V) ∧ (l.getD 31 true = false → BoxIs (w4.heap.size + 3) #[.int .i64 r3.lo, .int .i64 r3.hi] V)) (by kernel_rfl) (⟨⟨(Below.refl _ _).drew, HZr.out⟩, fun _ => HX0.out.below (Below.refl _ _).drew, fun _ => HX1.out.below (Below.refl _ _).drew, fun _ => HX2.out.below (Below.refl _ _).drew, fun _ => HX3.out.below (Below.refl _ _).drew⟩) (fun hS => ?_)
      simp only [List.size_toArray, List.length_cons, List.length_nil, Nat.reduceAdd, Array.replicate_succ, Array.replicate_zero, List.push_toArray, List.nil_append, List.cons_append]
      refine anyL_take [28] (i := 0) (v := ?_) rfl (by kernel_rfl) (by kernel_rfl) (by kernel_rfl) (fun _ _ _ h => h) (by kernel_rfl) (by kernel_rfl) (fun _ _ => and_congr Iff.rfl (and_congr (imp_congr (getD_set_iff (by decide)) Iff.rfl) (and_congr (imp_congr (getD_set_iff (by decide)) Iff.rfl) (and_congr (imp_congr (getD_set_iff (by decide)) Iff.rfl) (imp_congr (getD_set_iff (by decide)) Iff.rfl))))) (Or.inl ⟨by rfl, fun V hV => ?_⟩) (by assumption) ?_
      rotate_left
      · obtain ⟨l, hn, hV⟩ := hV; have hX := hV.2.1 (hn 28 (by simp)); have e0 := (hX.2 0 _ rfl).1; have e1 := (hX.2 1 _ rfl).1; go_simp
        try with_reducible rfl
      try simp only [Act.put, List.getElem_toArray, List.getElem_cons_zero, List.setIfInBounds_toArray, List.set_cons_zero, List.set_cons_succ]
      refine anyL_take [] (i := 1) (v := ?_) rfl (by kernel_rfl) (by kernel_rfl) (by kernel_rfl) (fun _ _ _ h => h) (by kernel_rfl) (by kernel_rfl) (fun _ _ => and_congr Iff.rfl (and_congr (imp_congr (getD_set_iff (by decide)) Iff.rfl) (and_congr (imp_congr (getD_set_iff (by decide)) Iff.rfl) (and_congr (imp_congr (getD_set_iff (by decide)) Iff.rfl) (imp_congr (getD_set_iff (by decide)) Iff.rfl))))) (Or.inl ⟨by rfl, fun V hV => ?_⟩) (by assumption) ?_
      rotate_left
      · go_simp
        try with_reducible rfl
      try simp only [Act.put, List.getElem_toArray, List.getElem_cons_zero, List.getElem_cons_succ, List.setIfInBounds_toArray, List.set_cons_zero, List.set_cons_succ]
      refine anyL_take [] (i := 2) (v := ?_) rfl (by kernel_rfl) (by kernel_rfl) (by kernel_rfl) (fun _ _ _ h => h) (by kernel_rfl) (by kernel_rfl) (fun _ _ => and_congr Iff.rfl (and_congr (imp_congr (getD_set_iff (by decide)) Iff.rfl) (and_congr (imp_congr (getD_set_iff (by decide)) Iff.rfl) (and_congr (imp_congr (getD_set_iff (by decide)) Iff.rfl) (imp_congr (getD_set_iff (by decide)) Iff.rfl))))) (Or.inl ⟨by rfl, fun V hV => ?_⟩) (by assumption) ?_
      rotate_left
      · go_simp
        try with_reducible rfl
      try simp only [Act.put, List.getElem_toArray, List.getElem_cons_zero, List.getElem_cons_succ, List.setIfInBounds_toArray, List.set_cons_zero, List.set_cons_succ]
      refine anyL_take [] (i := 3) (v := ?_) rfl (by kernel_rfl) (by kernel_rfl) (by kernel_rfl) (fun _ _ _ h => h) (by kernel_rfl) (by kernel_rfl) (fun _ _ => and_congr Iff.rfl (and_congr (imp_congr (getD_set_iff (by decide)) Iff.rfl) (and_congr (imp_congr (getD_set_iff (by decide)) Iff.rfl) (and_congr (imp_congr (getD_set_iff (by decide)) Iff.rfl) (imp_congr (getD_set_iff (by decide)) Iff.rfl))))) (Or.inl ⟨by rfl, fun V hV => ?_⟩) (by assumption) ?_
      rotate_left
      · go_simp
        try with_reducible rfl
      try simp only [Act.put, List.getElem_toArray, List.getElem_cons_zero, List.getElem_cons_succ, List.setIfInBounds_toArray, List.set_cons_zero, List.set_cons_succ]
      refine anyL_take [] (i := 4) (v := ?_) rfl (by kernel_rfl) (by kernel_rfl) (by kernel_rfl) (fun _ _ _ h => h) (by kernel_rfl) (by kernel_rfl) (fun _ _ => and_congr Iff.rfl (and_congr (imp_congr (getD_set_iff (by decide)) Iff.rfl) (and_congr (imp_congr (getD_set_iff (by decide)) Iff.rfl) (and_congr (imp_congr (getD_set_iff (by decide)) Iff.rfl) (imp_congr (getD_set_iff (by decide)) Iff.rfl))))) (Or.inl ⟨by rfl, fun V hV => ?_⟩) (by assumption) ?_
      rotate_left
      · go_simp
        try with_reducible rfl
      try simp only [Act.put, List.getElem_toArray, List.getElem_cons_zero, List.getElem_cons_succ, List.setIfInBounds_toArray, List.set_cons_zero, List.set_cons_succ]
      refine anyL_take [] (i := 5) (v := ?_) rfl (by kernel_rfl) (by kernel_rfl) (by kernel_rfl) (fun _ _ _ h => h) (by kernel_rfl) (by kernel_rfl) (fun _ _ => and_congr Iff.rfl (and_congr (imp_congr (getD_set_iff (by decide)) Iff.rfl) (and_congr (imp_congr (getD_set_iff (by decide)) Iff.rfl) (and_congr (imp_congr (getD_set_iff (by decide)) Iff.rfl) (imp_congr (getD_set_iff (by decide)) Iff.rfl))))) (Or.inl ⟨by rfl, fun V hV => ?_⟩) (by assumption) ?_
      rotate_left
      · obtain ⟨l, hn, hV⟩ := hV; have ⟨d0, d1, d2, d3⟩ := HC.out V hV.1.1; go_simp
        try with_reducible rfl
      try simp only [Act.put, List.getElem_toArray, List.getElem_cons_zero, List.getElem_cons_succ, List.setIfInBounds_toArray, List.set_cons_zero, List.set_cons_succ]
      refine anyL_take [29] (i := 7) (v := ?_) rfl (by kernel_rfl) (by kernel_rfl) (by kernel_rfl) (fun _ _ _ h => h) (by kernel_rfl) (by kernel_rfl) (fun _ _ => and_congr Iff.rfl (and_congr (imp_congr (getD_set_iff (by decide)) Iff.rfl) (and_congr (imp_congr (getD_set_iff (by decide)) Iff.rfl) (and_congr (imp_congr (getD_set_iff (by decide)) Iff.rfl) (imp_congr (getD_set_iff (by decide)) Iff.rfl))))) (Or.inl ⟨by rfl, fun V hV => ?_⟩) (by assumption) ?_
      rotate_left
      · obtain ⟨l, hn, hV⟩ := hV; have hX := hV.2.2.1 (hn 29 (by simp)); have e0 := (hX.2 0 _ rfl).1; have e1 := (hX.2 1 _ rfl).1; go_simp
        try with_reducible rfl
      try simp only [Act.put, List.getElem_toArray, List.getElem_cons_zero, List.getElem_cons_succ, List.setIfInBounds_toArray, List.set_cons_zero, List.set_cons_succ]
      refine anyL_take [] (i := 8) (v := ?_) rfl (by kernel_rfl) (by kernel_rfl) (by kernel_rfl) (fun _ _ _ h => h) (by kernel_rfl) (by kernel_rfl) (fun _ _ => and_congr Iff.rfl (and_congr (imp_congr (getD_set_iff (by decide)) Iff.rfl) (and_congr (imp_congr (getD_set_iff (by decide)) Iff.rfl) (and_congr (imp_congr (getD_set_iff (by decide)) Iff.rfl) (imp_congr (getD_set_iff (by decide)) Iff.rfl))))) (Or.inl ⟨by rfl, fun V hV => ?_⟩) (by assumption) ?_
      rotate_left
      · go_simp
        try with_reducible rfl
      try simp only [Act.put, List.getElem_toArray, List.getElem_cons_zero, List.getElem_cons_succ, List.setIfInBounds_toArray, List.set_cons_zero, List.set_cons_succ]
      refine anyL_take [] (i := 9) (v := ?_) rfl (by kernel_rfl) (by kernel_rfl) (by kernel_rfl) (fun _ _ _ h => h) (by kernel_rfl) (by kernel_rfl) (fun _ _ => and_congr Iff.rfl (and_congr (imp_congr (getD_set_iff (by decide)) Iff.rfl) (and_congr (imp_congr (getD_set_iff (by decide)) Iff.rfl) (and_congr (imp_congr (getD_set_iff (by decide)) Iff.rfl) (imp_congr (getD_set_iff (by decide)) Iff.rfl))))) (Or.inl ⟨by rfl, fun V hV => ?_⟩) (by assumption) ?_
      rotate_left
      · go_simp
        try with_reducible rfl
      try simp only [Act.put, List.getElem_toArray, List.getElem_cons_zero, List.getElem_cons_succ, List.setIfInBounds_toArray, List.set_cons_zero, List.set_cons_succ]
      refine anyL_take [] (i := 10) (v := ?_) rfl (by kernel_rfl) (by kernel_rfl) (by kernel_rfl) (fun _ _ _ h => h) (by kernel_rfl) (by kernel_rfl) (fun _ _ => and_congr Iff.rfl (and_congr (imp_congr (getD_set_iff (by decide)) Iff.rfl) (and_congr (imp_congr (getD_set_iff (by decide)) Iff.rfl) (and_congr (imp_congr (getD_set_iff (by decide)) Iff.rfl) (imp_congr (getD_set_iff (by decide)) Iff.rfl))))) (Or.inl ⟨by rfl, fun V hV => ?_⟩) (by assumption) ?_
      rotate_left
      · go_simp
        try with_reducible rfl
      try simp only [Act.put, List.getElem_toArray, List.getElem_cons_zero, List.getElem_cons_succ, List.setIfInBounds_toArray, List.set_cons_zero, List.set_cons_succ]
      refine anyL_take [] (i := 11) (v := ?_) rfl (by kernel_rfl) (by kernel_rfl) (by kernel_rfl) (fun _ _ _ h => h) (by kernel_rfl) (by kernel_rfl) (fun _ _ => and_congr Iff.rfl (and_congr (imp_congr (getD_set_iff (by decide)) Iff.rfl) (and_congr (imp_congr (getD_set_iff (by decide)) Iff.rfl) (and_congr (imp_congr (getD_set_iff (by decide)) Iff.rfl) (imp_congr (getD_set_iff (by decide)) Iff.rfl))))) (Or.inl ⟨by rfl, fun V hV => ?_⟩) (by assumption) ?_
      rotate_left
      · go_simp
        try with_reducible rfl
      try simp only [Act.put, List.getElem_toArray, List.getElem_cons_zero, List.getElem_cons_succ, List.setIfInBounds_toArray, List.set_cons_zero, List.set_cons_succ]
      refine anyL_take [] (i := 12) (v := ?_) rfl (by kernel_rfl) (by kernel_rfl) (by kernel_rfl) (fun _ _ _ h => h) (by kernel_rfl) (by kernel_rfl) (fun _ _ => and_congr Iff.rfl (and_congr (imp_congr (getD_set_iff (by decide)) Iff.rfl) (and_congr (imp_congr (getD_set_iff (by decide)) Iff.rfl) (and_congr (imp_congr (getD_set_iff (by decide)) Iff.rfl) (imp_congr (getD_set_iff (by decide)) Iff.rfl))))) (Or.inl ⟨by rfl, fun V hV => ?_⟩) (by assumption) ?_
      rotate_left
      · obtain ⟨l, hn, hV⟩ := hV; have ⟨d0, d1, d2, d3⟩ := HC.out V hV.1.1; go_simp
        try with_reducible rfl
      try simp only [Act.put, List.getElem_toArray, List.getElem_cons_zero, List.getElem_cons_succ, List.setIfInBounds_toArray, List.set_cons_zero, List.set_cons_succ]
      refine anyL_take [30] (i := 14) (v := ?_) rfl (by kernel_rfl) (by kernel_rfl) (by kernel_rfl) (fun _ _ _ h => h) (by kernel_rfl) (by kernel_rfl) (fun _ _ => and_congr Iff.rfl (and_congr (imp_congr (getD_set_iff (by decide)) Iff.rfl) (and_congr (imp_congr (getD_set_iff (by decide)) Iff.rfl) (and_congr (imp_congr (getD_set_iff (by decide)) Iff.rfl) (imp_congr (getD_set_iff (by decide)) Iff.rfl))))) (Or.inl ⟨by rfl, fun V hV => ?_⟩) (by assumption) ?_
      rotate_left
      · obtain ⟨l, hn, hV⟩ := hV; have hX := hV.2.2.2.1 (hn 30 (by simp)); have e0 := (hX.2 0 _ rfl).1; have e1 := (hX.2 1 _ rfl).1; go_simp
        try with_reducible rfl
      try simp only [Act.put, List.getElem_toArray, List.getElem_cons_zero, List.getElem_cons_succ, List.setIfInBounds_toArray, List.set_cons_zero, List.set_cons_succ]
      refine anyL_take [] (i := 15) (v := ?_) rfl (by kernel_rfl) (by kernel_rfl) (by kernel_rfl) (fun _ _ _ h => h) (by kernel_rfl) (by kernel_rfl) (fun _ _ => and_congr Iff.rfl (and_congr (imp_congr (getD_set_iff (by decide)) Iff.rfl) (and_congr (imp_congr (getD_set_iff (by decide)) Iff.rfl) (and_congr (imp_congr (getD_set_iff (by decide)) Iff.rfl) (imp_congr (getD_set_iff (by decide)) Iff.rfl))))) (Or.inl ⟨by rfl, fun V hV => ?_⟩) (by assumption) ?_
      rotate_left
      · go_simp
        try with_reducible rfl
      try simp only [Act.put, List.getElem_toArray, List.getElem_cons_zero, List.getElem_cons_succ, List.setIfInBounds_toArray, List.set_cons_zero, List.set_cons_succ]
      refine anyL_take [] (i := 16) (v := ?_) rfl (by kernel_rfl) (by kernel_rfl) (by kernel_rfl) (fun _ _ _ h => h) (by kernel_rfl) (by kernel_rfl) (fun _ _ => and_congr Iff.rfl (and_congr (imp_congr (getD_set_iff (by decide)) Iff.rfl) (and_congr (imp_congr (getD_set_iff (by decide)) Iff.rfl) (and_congr (imp_congr (getD_set_iff (by decide)) Iff.rfl) (imp_congr (getD_set_iff (by decide)) Iff.rfl))))) (Or.inl ⟨by rfl, fun V hV => ?_⟩) (by assumption) ?_
      rotate_left
      · go_simp
        try with_reducible rfl
      try simp only [Act.put, List.getElem_toArray, List.getElem_cons_zero, List.getElem_cons_succ, List.setIfInBounds_toArray, List.set_cons_zero, List.set_cons_succ]
      refine anyL_take [] (i := 17) (v := ?_) rfl (by kernel_rfl) (by kernel_rfl) (by kernel_rfl) (fun _ _ _ h => h) (by kernel_rfl) (by kernel_rfl) (fun _ _ => and_congr Iff.rfl (and_congr (imp_congr (getD_set_iff (by decide)) Iff.rfl) (and_congr (imp_congr (getD_set_iff (by decide)) Iff.rfl) (and_congr (imp_congr (getD_set_iff (by decide)) Iff.rfl) (imp_congr (getD_set_iff (by decide)) Iff.rfl))))) (Or.inl ⟨by rfl, fun V hV => ?_⟩) (by assumption) ?_
      rotate_left
      · go_simp
        try with_reducible rfl
      try simp only [Act.put, List.getElem_toArray, List.getElem_cons_zero, List.getElem_cons_succ, List.setIfInBounds_toArray, List.set_cons_zero, List.set_cons_succ]
      refine anyL_take [] (i := 18) (v := ?_) rfl (by kernel_rfl) (by kernel_rfl) (by kernel_rfl) (fun _ _ _ h => h) (by kernel_rfl) (by kernel_rfl) (fun _ _ => and_congr Iff.rfl (and_congr (imp_congr (getD_set_iff (by decide)) Iff.rfl) (and_congr (imp_congr (getD_set_iff (by decide)) Iff.rfl) (and_congr (imp_congr (getD_set_iff (by decide)) Iff.rfl) (imp_congr (getD_set_iff (by decide)) Iff.rfl))))) (Or.inl ⟨by rfl, fun V hV => ?_⟩) (by assumption) ?_
      rotate_left
      · go_simp
        try with_reducible rfl
      try simp only [Act.put, List.getElem_toArray, List.getElem_cons_zero, List.getElem_cons_succ, List.setIfInBounds_toArray, List.set_cons_zero, List.set_cons_succ]
      refine anyL_take [] (i := 19) (v := ?_) rfl (by kernel_rfl) (by kernel_rfl) (by kernel_rfl) (fun _ _ _ h => h) (by kernel_rfl) (by kernel_rfl) (fun _ _ => and_congr Iff.rfl (and_congr (imp_congr (getD_set_iff (by decide)) Iff.rfl) (and_congr (imp_congr (getD_set_iff (by decide)) Iff.rfl) (and_congr (imp_congr (getD_set_iff (by decide)) Iff.rfl) (imp_congr (getD_set_iff (by decide)) Iff.rfl))))) (Or.inl ⟨by rfl, fun V hV => ?_⟩) (by assumption) ?_
      rotate_left
      · obtain ⟨l, hn, hV⟩ := hV; have ⟨d0, d1, d2, d3⟩ := HC.out V hV.1.1; go_simp
        try with_reducible rfl
      try simp only [Act.put, List.getElem_toArray, List.getElem_cons_zero, List.getElem_cons_succ, List.setIfInBounds_toArray, List.set_cons_zero, List.set_cons_succ]
      refine anyL_take [31] (i := 21) (v := ?_) rfl (by kernel_rfl) (by kernel_rfl) (by kernel_rfl) (fun _ _ _ h => h) (by kernel_rfl) (by kernel_rfl) (fun _ _ => and_congr Iff.rfl (and_congr (imp_congr (getD_set_iff (by decide)) Iff.rfl) (and_congr (imp_congr (getD_set_iff (by decide)) Iff.rfl) (and_congr (imp_congr (getD_set_iff (by decide)) Iff.rfl) (imp_congr (getD_set_iff (by decide)) Iff.rfl))))) (Or.inl ⟨by rfl, fun V hV => ?_⟩) (by assumption) ?_
      rotate_left
      · obtain ⟨l, hn, hV⟩ := hV; have hX := hV.2.2.2.2 (hn 31 (by simp)); have e0 := (hX.2 0 _ rfl).1; have e1 := (hX.2 1 _ rfl).1; go_simp
        try with_reducible rfl
      try simp only [Act.put, List.getElem_toArray, List.getElem_cons_zero, List.getElem_cons_succ, List.setIfInBounds_toArray, List.set_cons_zero, List.set_cons_succ]
      refine anyL_take [] (i := 22) (v := ?_) rfl (by kernel_rfl) (by kernel_rfl) (by kernel_rfl) (fun _ _ _ h => h) (by kernel_rfl) (by kernel_rfl) (fun _ _ => and_congr Iff.rfl (and_congr (imp_congr (getD_set_iff (by decide)) Iff.rfl) (and_congr (imp_congr (getD_set_iff (by decide)) Iff.rfl) (and_congr (imp_congr (getD_set_iff (by decide)) Iff.rfl) (imp_congr (getD_set_iff (by decide)) Iff.rfl))))) (Or.inl ⟨by rfl, fun V hV => ?_⟩) (by assumption) ?_
      rotate_left
      · go_simp
        try with_reducible rfl
      try simp only [Act.put, List.getElem_toArray, List.getElem_cons_zero, List.getElem_cons_succ, List.setIfInBounds_toArray, List.set_cons_zero, List.set_cons_succ]
      refine anyL_take [] (i := 23) (v := ?_) rfl (by kernel_rfl) (by kernel_rfl) (by kernel_rfl) (fun _ _ _ h => h) (by kernel_rfl) (by kernel_rfl) (fun _ _ => and_congr Iff.rfl (and_congr (imp_congr (getD_set_iff (by decide)) Iff.rfl) (and_congr (imp_congr (getD_set_iff (by decide)) Iff.rfl) (and_congr (imp_congr (getD_set_iff (by decide)) Iff.rfl) (imp_congr (getD_set_iff (by decide)) Iff.rfl))))) (Or.inl ⟨by rfl, fun V hV => ?_⟩) (by assumption) ?_
      rotate_left
      · go_simp
        try with_reducible rfl
      try simp only [Act.put, List.getElem_toArray, List.getElem_cons_zero, List.getElem_cons_succ, List.setIfInBounds_toArray, List.set_cons_zero, List.set_cons_succ]
      refine anyL_take [] (i := 24) (v := ?_) rfl (by kernel_rfl) (by kernel_rfl) (by kernel_rfl) (fun _ _ _ h => h) (by kernel_rfl) (by kernel_rfl) (fun _ _ => and_congr Iff.rfl (and_congr (imp_congr (getD_set_iff (by decide)) Iff.rfl) (and_congr (imp_congr (getD_set_iff (by decide)) Iff.rfl) (and_congr (imp_congr (getD_set_iff (by decide)) Iff.rfl) (imp_congr (getD_set_iff (by decide)) Iff.rfl))))) (Or.inl ⟨by rfl, fun V hV => ?_⟩) (by assumption) ?_
      rotate_left
      · go_simp
        try with_reducible rfl
      try simp only [Act.put, List.getElem_toArray, List.getElem_cons_zero, List.getElem_cons_succ, List.setIfInBounds_toArray, List.set_cons_zero, List.set_cons_succ]
      refine anyL_take [] (i := 25) (v := ?_) rfl (by kernel_rfl) (by kernel_rfl) (by kernel_rfl) (fun _ _ _ h => h) (by kernel_rfl) (by kernel_rfl) (fun _ _ => and_congr Iff.rfl (and_congr (imp_congr (getD_set_iff (by decide)) Iff.rfl) (and_congr (imp_congr (getD_set_iff (by decide)) Iff.rfl) (and_congr (imp_congr (getD_set_iff (by decide)) Iff.rfl) (imp_congr (getD_set_iff (by decide)) Iff.rfl))))) (Or.inl ⟨by rfl, fun V hV => ?_⟩) (by assumption) ?_
      rotate_left
      · go_simp
        try with_reducible rfl
      try simp only [Act.put, List.getElem_toArray, List.getElem_cons_zero, List.getElem_cons_succ, List.setIfInBounds_toArray, List.set_cons_zero, List.set_cons_succ]
      refine anyL_take [] (i := 26) (v := ?_) rfl (by kernel_rfl) (by kernel_rfl) (by kernel_rfl) (fun _ _ _ h => h) (by kernel_rfl) (by kernel_rfl) (fun _ _ => and_congr Iff.rfl (and_congr (imp_congr (getD_set_iff (by decide)) Iff.rfl) (and_congr (imp_congr (getD_set_iff (by decide)) Iff.rfl) (and_congr (imp_congr (getD_set_iff (by decide)) Iff.rfl) (imp_congr (getD_set_iff (by decide)) Iff.rfl))))) (Or.inl ⟨by rfl, fun V hV => ?_⟩) (by assumption) ?_
      rotate_left
      · obtain ⟨l, hn, hV⟩ := hV; have ⟨d0, d1, d2, d3⟩ := HC.out V hV.1.1; go_simp
        try with_reducible rfl
      try simp only [Act.put, List.getElem_toArray, List.getElem_cons_zero, List.getElem_cons_succ, List.setIfInBounds_toArray, List.set_cons_zero, List.set_cons_succ]
      refine anyL_one (i := 6) (o := _) (by kernel_rfl) rfl (fun K hK => ?_)
      go_simp
      (with_reducible refine (widerE_any r0 t.a _).mono ?_)
      rintro e v6 ⟨rfl, hb⟩
      have HY0 := hid ((HX0.out.below (Below.refl _ _).drew).below hb)
      have HY1 := hid ((HX1.out.below (Below.refl _ _).drew).below hb)
      have HY2 := hid ((HX2.out.below (Below.refl _ _).drew).below hb)
      have HY3 := hid ((HX3.out.below (Below.refl _ _).drew).below hb)
      have HSa := hid (hS.1.1.trans (hb.mono (by have := hS.1.2; omega)))
      have HSb : Hid (w4.heap.size + 3 < v6.heap.size) := hid HY3.out.1
      clear hS hb
      refine hK.out _ _ (⟨⟨HSa.out, HSb.out⟩, fun _ => HY0.out, fun _ => HY1.out, fun _ => HY2.out, fun _ => HY3.out⟩) (fun hS => ?_)
      clear hK K
      try simp only [List.setIfInBounds_toArray, List.set_cons_zero, List.set_cons_succ]
      refine anyL_one (i := 13) (o := _) (by kernel_rfl) rfl (fun K hK => ?_)
      go_simp
      (with_reducible refine (widerE_any r1 t.b _).mono ?_)
      rintro e v13 ⟨rfl, hb⟩
      replace HY0 := hid (HY0.out.below hb)
      replace HY1 := hid (HY1.out.below hb)
      replace HY2 := hid (HY2.out.below hb)
      replace HY3 := hid (HY3.out.below hb)
      have HSa := hid (hS.1.1.trans (hb.mono (by have := hS.1.2; omega)))
      have HSb : Hid (w4.heap.size + 3 < v13.heap.size) := hid HY3.out.1
      clear hS hb
      refine hK.out _ _ (⟨⟨HSa.out, HSb.out⟩, fun _ => HY0.out, fun _ => HY1.out, fun _ => HY2.out, fun _ => HY3.out⟩) (fun hS => ?_)
      clear hK K
      try simp only [List.setIfInBounds_toArray, List.set_cons_zero, List.set_cons_succ]
      refine anyL_one (i := 20) (o := _) (by kernel_rfl) rfl (fun K hK => ?_)
      go_simp
      (with_reducible refine (widerE_any r2 t.half _).mono ?_)
      rintro e v20 ⟨rfl, hb⟩
      replace HY0 := hid (HY0.out.below hb)
      replace HY1 := hid (HY1.out.below hb)
      replace HY2 := hid (HY2.out.below hb)
      replace HY3 := hid (HY3.out.below hb)
      have HSa := hid (hS.1.1.trans (hb.mono (by have := hS.1.2; omega)))
      have HSb : Hid (w4.heap.size + 3 < v20.heap.size) := hid HY3.out.1
      clear hS hb
      refine hK.out _ _ (⟨⟨HSa.out, HSb.out⟩, fun _ => HY0.out, fun _ => HY1.out, fun _ => HY2.out, fun _ => HY3.out⟩) (fun hS => ?_)
      clear hK K
      try simp only [List.setIfInBounds_toArray, List.set_cons_zero, List.set_cons_succ]
      refine anyL_one (i := 27) (o := _) (by kernel_rfl) rfl (fun K hK => ?_)
      go_simp
      (with_reducible refine (widerE_any r3 t.peak _).mono ?_)
      rintro e v27 ⟨rfl, hb⟩
      replace HY0 := hid (HY0.out.below hb)
      replace HY1 := hid (HY1.out.below hb)
      replace HY2 := hid (HY2.out.below hb)
      replace HY3 := hid (HY3.out.below hb)
      have HSa := hid (hS.1.1.trans (hb.mono (by have := hS.1.2; omega)))
      have HSb : Hid (w4.heap.size + 3 < v27.heap.size) := hid HY3.out.1
      clear hS hb
      refine hK.out _ _ (⟨⟨HSa.out, HSb.out⟩, fun _ => HY0.out, fun _ => HY1.out, fun _ => HY2.out, fun _ => HY3.out⟩) (fun hS => ?_)
      clear hK K
      try simp only [List.setIfInBounds_toArray, List.set_cons_zero, List.set_cons_succ]
      refine anyL_one (i := 28) (o := _) (by kernel_rfl) rfl (fun K hK => ?_)
      have k0 := (HY0.out.2 0 (.int .i64 r0.lo) rfl).1; have k1 := (HY0.out.2 1 (.int .i64 r0.hi) rfl).1; have f0 := (HY0.out.2 0 (.int .i64 r0.lo) rfl).2; have f1 := (HY0.out.2 1 (.int .i64 r0.hi) rfl).2
      have HU0 : Hid (BoxIs (w4.heap.size) #[.int .i64 (widerR r0 t.a).lo, .int .i64 (widerR r0 t.a).hi] ((v27.setCell ⟨w4.heap.size, 0, none⟩ (.int .i64 (widerR r0 t.a).lo)).setCell ⟨w4.heap.size, 1, none⟩ (.int .i64 (widerR r0 t.a).hi))) := hid ((HY0.out.put (j := 0) (.int .i64 (widerR r0 t.a).lo)).put (j := 1) (.int .i64 (widerR r0 t.a).hi))
      have HU1 := hid ((HY1.out.other (b' := w4.heap.size) (k' := 0) (by omega) (.int .i64 (widerR r0 t.a).lo)).other (b' := w4.heap.size) (k' := 1) (by omega) (.int .i64 (widerR r0 t.a).hi))
      have HU2 := hid ((HY2.out.other (b' := w4.heap.size) (k' := 0) (by omega) (.int .i64 (widerR r0 t.a).lo)).other (b' := w4.heap.size) (k' := 1) (by omega) (.int .i64 (widerR r0 t.a).hi))
      have HU3 := hid ((HY3.out.other (b' := w4.heap.size) (k' := 0) (by omega) (.int .i64 (widerR r0 t.a).lo)).other (b' := w4.heap.size) (k' := 1) (by omega) (.int .i64 (widerR r0 t.a).hi))
      have HT : Hid (Below w4.heap.size wr ((v27.setCell ⟨w4.heap.size, 0, none⟩ (.int .i64 (widerR r0 t.a).lo)).setCell ⟨w4.heap.size, 1, none⟩ (.int .i64 (widerR r0 t.a).hi))) := hid ((hS.1.1.setCell (p := ⟨w4.heap.size, 0, none⟩) (by show w4.heap.size ≤ w4.heap.size; omega) (.int .i64 (widerR r0 t.a).lo)).setCell (p := ⟨w4.heap.size, 1, none⟩) (by show w4.heap.size ≤ w4.heap.size; omega) (.int .i64 (widerR r0 t.a).hi))
      clear hS
      go_simp
      clear k0 k1 f0 f1
      generalize ((v27.setCell ⟨w4.heap.size, 0, none⟩ (.int .i64 (widerR r0 t.a).lo)).setCell ⟨w4.heap.size, 1, none⟩ (.int .i64 (widerR r0 t.a).hi)) = V1 at HU0 HU1 HU2 HU3 HT ⊢
      replace HY0 := HU0
      replace HY1 := HU1
      replace HY2 := HU2
      replace HY3 := HU3
      refine hK.out _ _ (⟨⟨HT.out, HY3.out.1⟩, fun h => absurd h (by decide), fun _ => HY1.out, fun _ => HY2.out, fun _ => HY3.out⟩) (fun hS => ?_)
      clear hK K
      try simp only [List.setIfInBounds_toArray, List.set_cons_zero, List.set_cons_succ]
      refine anyL_one (i := 29) (o := _) (by kernel_rfl) rfl (fun K hK => ?_)
      have k0 := (HY1.out.2 0 (.int .i64 r1.lo) rfl).1; have k1 := (HY1.out.2 1 (.int .i64 r1.hi) rfl).1; have f0 := (HY1.out.2 0 (.int .i64 r1.lo) rfl).2; have f1 := (HY1.out.2 1 (.int .i64 r1.hi) rfl).2
      have HU0 := hid ((HY0.out.other (b' := w4.heap.size + 1) (k' := 0) (by omega) (.int .i64 (widerR r1 t.b).lo)).other (b' := w4.heap.size + 1) (k' := 1) (by omega) (.int .i64 (widerR r1 t.b).hi))
      have HU1 : Hid (BoxIs (w4.heap.size + 1) #[.int .i64 (widerR r1 t.b).lo, .int .i64 (widerR r1 t.b).hi] ((V1.setCell ⟨w4.heap.size + 1, 0, none⟩ (.int .i64 (widerR r1 t.b).lo)).setCell ⟨w4.heap.size + 1, 1, none⟩ (.int .i64 (widerR r1 t.b).hi))) := hid ((HY1.out.put (j := 0) (.int .i64 (widerR r1 t.b).lo)).put (j := 1) (.int .i64 (widerR r1 t.b).hi))
      have HU2 := hid ((HY2.out.other (b' := w4.heap.size + 1) (k' := 0) (by omega) (.int .i64 (widerR r1 t.b).lo)).other (b' := w4.heap.size + 1) (k' := 1) (by omega) (.int .i64 (widerR r1 t.b).hi))
      have HU3 := hid ((HY3.out.other (b' := w4.heap.size + 1) (k' := 0) (by omega) (.int .i64 (widerR r1 t.b).lo)).other (b' := w4.heap.size + 1) (k' := 1) (by omega) (.int .i64 (widerR r1 t.b).hi))
      have HT : Hid (Below w4.heap.size wr ((V1.setCell ⟨w4.heap.size + 1, 0, none⟩ (.int .i64 (widerR r1 t.b).lo)).setCell ⟨w4.heap.size + 1, 1, none⟩ (.int .i64 (widerR r1 t.b).hi))) := hid ((hS.1.1.setCell (p := ⟨w4.heap.size + 1, 0, none⟩) (by show w4.heap.size ≤ w4.heap.size + 1; omega) (.int .i64 (widerR r1 t.b).lo)).setCell (p := ⟨w4.heap.size + 1, 1, none⟩) (by show w4.heap.size ≤ w4.heap.size + 1; omega) (.int .i64 (widerR r1 t.b).hi))
      clear hS
      go_simp
      clear k0 k1 f0 f1
      generalize ((V1.setCell ⟨w4.heap.size + 1, 0, none⟩ (.int .i64 (widerR r1 t.b).lo)).setCell ⟨w4.heap.size + 1, 1, none⟩ (.int .i64 (widerR r1 t.b).hi)) = V2 at HU0 HU1 HU2 HU3 HT ⊢
      replace HY0 := HU0
      replace HY1 := HU1
      replace HY2 := HU2
      replace HY3 := HU3
      refine hK.out _ _ (⟨⟨HT.out, HY3.out.1⟩, fun h => absurd h (by decide), fun h => absurd h (by decide), fun _ => HY2.out, fun _ => HY3.out⟩) (fun hS => ?_)
      clear hK K
      try simp only [List.setIfInBounds_toArray, List.set_cons_zero, List.set_cons_succ]
      refine anyL_one (i := 30) (o := _) (by kernel_rfl) rfl (fun K hK => ?_)
      have k0 := (HY2.out.2 0 (.int .i64 r2.lo) rfl).1; have k1 := (HY2.out.2 1 (.int .i64 r2.hi) rfl).1; have f0 := (HY2.out.2 0 (.int .i64 r2.lo) rfl).2; have f1 := (HY2.out.2 1 (.int .i64 r2.hi) rfl).2
      have HU0 := hid ((HY0.out.other (b' := w4.heap.size + 2) (k' := 0) (by omega) (.int .i64 (widerR r2 t.half).lo)).other (b' := w4.heap.size + 2) (k' := 1) (by omega) (.int .i64 (widerR r2 t.half).hi))
      have HU1 := hid ((HY1.out.other (b' := w4.heap.size + 2) (k' := 0) (by omega) (.int .i64 (widerR r2 t.half).lo)).other (b' := w4.heap.size + 2) (k' := 1) (by omega) (.int .i64 (widerR r2 t.half).hi))
      have HU2 : Hid (BoxIs (w4.heap.size + 2) #[.int .i64 (widerR r2 t.half).lo, .int .i64 (widerR r2 t.half).hi] ((V2.setCell ⟨w4.heap.size + 2, 0, none⟩ (.int .i64 (widerR r2 t.half).lo)).setCell ⟨w4.heap.size + 2, 1, none⟩ (.int .i64 (widerR r2 t.half).hi))) := hid ((HY2.out.put (j := 0) (.int .i64 (widerR r2 t.half).lo)).put (j := 1) (.int .i64 (widerR r2 t.half).hi))
      have HU3 := hid ((HY3.out.other (b' := w4.heap.size + 2) (k' := 0) (by omega) (.int .i64 (widerR r2 t.half).lo)).other (b' := w4.heap.size + 2) (k' := 1) (by omega) (.int .i64 (widerR r2 t.half).hi))
      have HT : Hid (Below w4.heap.size wr ((V2.setCell ⟨w4.heap.size + 2, 0, none⟩ (.int .i64 (widerR r2 t.half).lo)).setCell ⟨w4.heap.size + 2, 1, none⟩ (.int .i64 (widerR r2 t.half).hi))) := hid ((hS.1.1.setCell (p := ⟨w4.heap.size + 2, 0, none⟩) (by show w4.heap.size ≤ w4.heap.size + 2; omega) (.int .i64 (widerR r2 t.half).lo)).setCell (p := ⟨w4.heap.size + 2, 1, none⟩) (by show w4.heap.size ≤ w4.heap.size + 2; omega) (.int .i64 (widerR r2 t.half).hi))
      clear hS
      go_simp
      clear k0 k1 f0 f1
      generalize ((V2.setCell ⟨w4.heap.size + 2, 0, none⟩ (.int .i64 (widerR r2 t.half).lo)).setCell ⟨w4.heap.size + 2, 1, none⟩ (.int .i64 (widerR r2 t.half).hi)) = V3 at HU0 HU1 HU2 HU3 HT ⊢
      replace HY0 := HU0
      replace HY1 := HU1
      replace HY2 := HU2
      replace HY3 := HU3
      refine hK.out _ _ (⟨⟨HT.out, HY3.out.1⟩, fun h => absurd h (by decide), fun h => absurd h (by decide), fun h => absurd h (by decide), fun _ => HY3.out⟩) (fun hS => ?_)
      clear hK K
      try simp only [List.setIfInBounds_toArray, List.set_cons_zero, List.set_cons_succ]
      refine anyL_one (i := 31) (o := _) (by kernel_rfl) rfl (fun K hK => ?_)
      have k0 := (HY3.out.2 0 (.int .i64 r3.lo) rfl).1; have k1 := (HY3.out.2 1 (.int .i64 r3.hi) rfl).1; have f0 := (HY3.out.2 0 (.int .i64 r3.lo) rfl).2; have f1 := (HY3.out.2 1 (.int .i64 r3.hi) rfl).2
      have HU0 := hid ((HY0.out.other (b' := w4.heap.size + 3) (k' := 0) (by omega) (.int .i64 (widerR r3 t.peak).lo)).other (b' := w4.heap.size + 3) (k' := 1) (by omega) (.int .i64 (widerR r3 t.peak).hi))
      have HU1 := hid ((HY1.out.other (b' := w4.heap.size + 3) (k' := 0) (by omega) (.int .i64 (widerR r3 t.peak).lo)).other (b' := w4.heap.size + 3) (k' := 1) (by omega) (.int .i64 (widerR r3 t.peak).hi))
      have HU2 := hid ((HY2.out.other (b' := w4.heap.size + 3) (k' := 0) (by omega) (.int .i64 (widerR r3 t.peak).lo)).other (b' := w4.heap.size + 3) (k' := 1) (by omega) (.int .i64 (widerR r3 t.peak).hi))
      have HU3 : Hid (BoxIs (w4.heap.size + 3) #[.int .i64 (widerR r3 t.peak).lo, .int .i64 (widerR r3 t.peak).hi] ((V3.setCell ⟨w4.heap.size + 3, 0, none⟩ (.int .i64 (widerR r3 t.peak).lo)).setCell ⟨w4.heap.size + 3, 1, none⟩ (.int .i64 (widerR r3 t.peak).hi))) := hid ((HY3.out.put (j := 0) (.int .i64 (widerR r3 t.peak).lo)).put (j := 1) (.int .i64 (widerR r3 t.peak).hi))
      have HT : Hid (Below w4.heap.size wr ((V3.setCell ⟨w4.heap.size + 3, 0, none⟩ (.int .i64 (widerR r3 t.peak).lo)).setCell ⟨w4.heap.size + 3, 1, none⟩ (.int .i64 (widerR r3 t.peak).hi))) := hid ((hS.1.1.setCell (p := ⟨w4.heap.size + 3, 0, none⟩) (by show w4.heap.size ≤ w4.heap.size + 3; omega) (.int .i64 (widerR r3 t.peak).lo)).setCell (p := ⟨w4.heap.size + 3, 1, none⟩) (by show w4.heap.size ≤ w4.heap.size + 3; omega) (.int .i64 (widerR r3 t.peak).hi))
      clear hS
      go_simp
      clear k0 k1 f0 f1
      generalize ((V3.setCell ⟨w4.heap.size + 3, 0, none⟩ (.int .i64 (widerR r3 t.peak).lo)).setCell ⟨w4.heap.size + 3, 1, none⟩ (.int .i64 (widerR r3 t.peak).hi)) = V4 at HU0 HU1 HU2 HU3 HT ⊢
      replace HY0 := HU0
      replace HY1 := HU1
      replace HY2 := HU2
      replace HY3 := HU3
      refine hK.out _ _ (⟨⟨HT.out, HY3.out.1⟩, fun h => absurd h (by decide), fun h => absurd h (by decide), fun h => absurd h (by decide), fun h => absurd h (by decide)⟩) (fun hS => ?_)
      clear hK K
      try simp only [List.setIfInBounds_toArray, List.set_cons_zero, List.set_cons_succ]
      refine anyL_done (by kernel_rfl) ?_ _
      have HT9 := hid hS.1.1
      clear hS
      go_wp2_with fail
      go_roundw
      case rel => exact ⟨k + 1, by omega, by go_num, by rw [HN0.out, HN1.out, HN2.out, HN3.out]; exact ⟨HY0.out, HY1.out, HY2.out, HY3.out⟩, HBr.out.trans HT9.out⟩
      case measure => simp [intOf]; omega
    · have hkN : L.take k = L := List.take_of_length_le (by have := HLE.out; omega)
      rw [hkN] at h0 h1 h2 h3
      clear hkN
      obtain ⟨r0, hr0⟩ : ∃ r, (wideT (fun t => t.a) emptyR L) = r := ⟨_, rfl⟩
      rw [hr0] at h0
      have HQ0 := hid hr0
      have HX0 := hid h0
      replace HO0 := hid (HO0.out.keep HBr.out (by have := HZ4.out; omega))
      obtain ⟨r1, hr1⟩ : ∃ r, (wideT (fun t => t.b) emptyR L) = r := ⟨_, rfl⟩
      rw [hr1] at h1
      have HQ1 := hid hr1
      have HX1 := hid h1
      replace HO1 := hid (HO1.out.keep HBr.out (by have := HZ4.out; omega))
      obtain ⟨r2, hr2⟩ : ∃ r, (wideT (fun t => t.half) emptyR L) = r := ⟨_, rfl⟩
      rw [hr2] at h2
      have HQ2 := hid hr2
      have HX2 := hid h2
      replace HO2 := hid (HO2.out.keep HBr.out (by have := HZ4.out; omega))
      obtain ⟨r3, hr3⟩ : ∃ r, (wideT (fun t => t.peak) emptyR L) = r := ⟨_, rfl⟩
      rw [hr3] at h3
      have HQ3 := hid hr3
      have HX3 := hid h3
      replace HO3 := hid (HO3.out.keep HBr.out (by have := HZ4.out; omega))
      clear h0 h1 h2 h3 hr0 hr1 hr2 hr3 hb
      go_upto_region 6 with fail
      generalize hwd : wr.drew = wd
      have HX0 := hid (HX0.out.below (Below.refl _ _).drew); replace HO0 := hid (HO0.out.below (Below.refl _ _).drew)
      have HX1 := hid (HX1.out.below (Below.refl _ _).drew); replace HO1 := hid (HO1.out.below (Below.refl _ _).drew)
      have HX2 := hid (HX2.out.below (Below.refl _ _).drew); replace HO2 := hid (HO2.out.below (Below.refl _ _).drew)
      have HX3 := hid (HX3.out.below (Below.refl _ _).drew); replace HO3 := hid (HO3.out.below (Below.refl _ _).drew)
      replace HBw := hid (HBw.out.drew)
      rw [hwd] at HX0 HX1 HX2 HX3 HO0 HO1 HO2 HO3 HBw
      refine wp_region_held_drew (S := fun V => (BoxIs (w4.heap.size) #[.int .i64 r0.lo, .int .i64 r0.hi] V ∧ BoxIs (w4.heap.size + 1) #[.int .i64 r1.lo, .int .i64 r1.hi] V ∧ BoxIs (w4.heap.size + 2) #[.int .i64 r2.lo, .int .i64 r2.hi] V ∧ BoxIs (w4.heap.size + 3) #[.int .i64 r3.lo, .int .i64 r3.hi] V) ∧ Below w.heap.size w V) (by kernel_rfl) (by rw [hwd]; exact ⟨⟨HX0.out, HX1.out, HX2.out, HX3.out⟩, HBw.out⟩) (fun hS => ?_)
      rw [hwd] at hS ⊢
      clear hwd
      simp only [List.size_toArray, List.length_cons, List.length_nil, Nat.reduceAdd, Array.replicate_succ, Array.replicate_zero, List.push_toArray, List.nil_append, List.cons_append]
      refine wpAnyH_take (i := 0) (v := ?_) rfl (by kernel_rfl) (by kernel_rfl) (by kernel_rfl) (fun _ _ _ h => h) (Or.inl ⟨by rfl, fun V hV => ?_⟩) (by assumption) ?_
      rotate_left
      · have hX := (hV.1).1; have e0 := (hX.2 0 _ rfl).1; have e1 := (hX.2 1 _ rfl).1; go_simp
        try with_reducible rfl
      try simp only [Act.put, List.getElem_toArray, List.getElem_cons_zero, List.setIfInBounds_toArray, List.set_cons_zero, List.set_cons_succ]
      refine wpAnyH_take (i := 1) (v := ?_) rfl (by kernel_rfl) (by kernel_rfl) (by kernel_rfl) (fun _ _ _ h => h) (Or.inl ⟨by rfl, fun V hV => ?_⟩) (by assumption) ?_
      rotate_left
      · have hX := (hV.1).2.1; have e0 := (hX.2 0 _ rfl).1; have e1 := (hX.2 1 _ rfl).1; go_simp
        try with_reducible rfl
      try simp only [Act.put, List.getElem_toArray, List.getElem_cons_zero, List.getElem_cons_succ, List.setIfInBounds_toArray, List.set_cons_zero, List.set_cons_succ]
      refine wpAnyH_take (i := 2) (v := ?_) rfl (by kernel_rfl) (by kernel_rfl) (by kernel_rfl) (fun _ _ _ h => h) (Or.inl ⟨by rfl, fun V hV => ?_⟩) (by assumption) ?_
      rotate_left
      · have hX := (hV.1).2.2.1; have e0 := (hX.2 0 _ rfl).1; have e1 := (hX.2 1 _ rfl).1; go_simp
        try with_reducible rfl
      try simp only [Act.put, List.getElem_toArray, List.getElem_cons_zero, List.getElem_cons_succ, List.setIfInBounds_toArray, List.set_cons_zero, List.set_cons_succ]
      refine wpAnyH_take (i := 3) (v := ?_) rfl (by kernel_rfl) (by kernel_rfl) (by kernel_rfl) (fun _ _ _ h => h) (Or.inl ⟨by rfl, fun V hV => ?_⟩) (by assumption) ?_
      rotate_left
      · have hX := (hV.1).2.2.2; have e0 := (hX.2 0 _ rfl).1; have e1 := (hX.2 1 _ rfl).1; go_simp
        try with_reducible rfl
      try simp only [Act.put, List.getElem_toArray, List.getElem_cons_zero, List.getElem_cons_succ, List.setIfInBounds_toArray, List.set_cons_zero, List.set_cons_succ]
      refine wpAnyH_ready (rs := [4]) (by kernel_rfl) (by simp) ?_
      refine AllReadyH.cons (o := _) rfl (fun K hK => ?_) AllReadyH.nil
      have k0 := (HO0.out.2 0 (.int .i64 0) rfl).1; have k1 := (HO0.out.2 1 (.int .i64 0) rfl).1; have f0 := (HO0.out.2 0 (.int .i64 0) rfl).2; have f1 := (HO0.out.2 1 (.int .i64 0) rfl).2
      have z4 := HZ4.out
      have HU0 : Hid (BoxIs (w.heap.size) #[.int .i64 r0.lo, .int .i64 r0.hi] ((wd.setCell ⟨w.heap.size, 0, none⟩ (.int .i64 r0.lo)).setCell ⟨w.heap.size, 1, none⟩ (.int .i64 r0.hi))) := hid ((HO0.out.put (j := 0) (.int .i64 r0.lo)).put (j := 1) (.int .i64 r0.hi))
      have HU1 := hid ((HO1.out.other (b' := w.heap.size) (k' := 0) (by omega) (.int .i64 r0.lo)).other (b' := w.heap.size) (k' := 1) (by omega) (.int .i64 r0.hi))
      have HU2 := hid ((HO2.out.other (b' := w.heap.size) (k' := 0) (by omega) (.int .i64 r0.lo)).other (b' := w.heap.size) (k' := 1) (by omega) (.int .i64 r0.hi))
      have HU3 := hid ((HO3.out.other (b' := w.heap.size) (k' := 0) (by omega) (.int .i64 r0.lo)).other (b' := w.heap.size) (k' := 1) (by omega) (.int .i64 r0.hi))
      have HT := hid (show (BoxIs (w4.heap.size) #[.int .i64 r0.lo, .int .i64 r0.hi] ((wd.setCell ⟨w.heap.size, 0, none⟩ (.int .i64 r0.lo)).setCell ⟨w.heap.size, 1, none⟩ (.int .i64 r0.hi)) ∧ BoxIs (w4.heap.size + 1) #[.int .i64 r1.lo, .int .i64 r1.hi] ((wd.setCell ⟨w.heap.size, 0, none⟩ (.int .i64 r0.lo)).setCell ⟨w.heap.size, 1, none⟩ (.int .i64 r0.hi)) ∧ BoxIs (w4.heap.size + 2) #[.int .i64 r2.lo, .int .i64 r2.hi] ((wd.setCell ⟨w.heap.size, 0, none⟩ (.int .i64 r0.lo)).setCell ⟨w.heap.size, 1, none⟩ (.int .i64 r0.hi)) ∧ BoxIs (w4.heap.size + 3) #[.int .i64 r3.lo, .int .i64 r3.hi] ((wd.setCell ⟨w.heap.size, 0, none⟩ (.int .i64 r0.lo)).setCell ⟨w.heap.size, 1, none⟩ (.int .i64 r0.hi))) ∧ Below w.heap.size w ((wd.setCell ⟨w.heap.size, 0, none⟩ (.int .i64 r0.lo)).setCell ⟨w.heap.size, 1, none⟩ (.int .i64 r0.hi)) from ⟨⟨((hS.1.1.other (b' := w.heap.size) (k' := 0) (by omega) (.int .i64 r0.lo)).other (b' := w.heap.size) (k' := 1) (by omega) (.int .i64 r0.hi)), ((hS.1.2.1.other (b' := w.heap.size) (k' := 0) (by omega) (.int .i64 r0.lo)).other (b' := w.heap.size) (k' := 1) (by omega) (.int .i64 r0.hi)), ((hS.1.2.2.1.other (b' := w.heap.size) (k' := 0) (by omega) (.int .i64 r0.lo)).other (b' := w.heap.size) (k' := 1) (by omega) (.int .i64 r0.hi)), ((hS.1.2.2.2.other (b' := w.heap.size) (k' := 0) (by omega) (.int .i64 r0.lo)).other (b' := w.heap.size) (k' := 1) (by omega) (.int .i64 r0.hi))⟩, ((hS.2.setCell (p := ⟨w.heap.size, 0, none⟩) (by show w.heap.size ≤ w.heap.size; omega) (.int .i64 r0.lo)).setCell (p := ⟨w.heap.size, 1, none⟩) (by show w.heap.size ≤ w.heap.size; omega) (.int .i64 r0.hi))⟩)
      clear hS z4
      go_simp
      clear k0 k1 f0 f1
      generalize ((wd.setCell ⟨w.heap.size, 0, none⟩ (.int .i64 r0.lo)).setCell ⟨w.heap.size, 1, none⟩ (.int .i64 r0.hi)) = V1 at HU0 HU1 HU2 HU3 HT ⊢
      replace HO0 := HU0
      replace HO1 := HU1
      replace HO2 := HU2
      replace HO3 := HU3
      refine hK.out _ _ (HT.out) (fun hS => ?_)
      clear hK K
      try simp only [List.setIfInBounds_toArray, List.set_cons_zero, List.set_cons_succ]
      refine wpAnyH_ready (rs := [5]) (by kernel_rfl) (by simp) ?_
      refine AllReadyH.cons (o := _) rfl (fun K hK => ?_) AllReadyH.nil
      have k0 := (HO1.out.2 0 (.int .i64 0) rfl).1; have k1 := (HO1.out.2 1 (.int .i64 0) rfl).1; have f0 := (HO1.out.2 0 (.int .i64 0) rfl).2; have f1 := (HO1.out.2 1 (.int .i64 0) rfl).2
      have z4 := HZ4.out
      have HU0 := hid ((HO0.out.other (b' := w.heap.size + 1) (k' := 0) (by omega) (.int .i64 r1.lo)).other (b' := w.heap.size + 1) (k' := 1) (by omega) (.int .i64 r1.hi))
      have HU1 : Hid (BoxIs (w.heap.size + 1) #[.int .i64 r1.lo, .int .i64 r1.hi] ((V1.setCell ⟨w.heap.size + 1, 0, none⟩ (.int .i64 r1.lo)).setCell ⟨w.heap.size + 1, 1, none⟩ (.int .i64 r1.hi))) := hid ((HO1.out.put (j := 0) (.int .i64 r1.lo)).put (j := 1) (.int .i64 r1.hi))
      have HU2 := hid ((HO2.out.other (b' := w.heap.size + 1) (k' := 0) (by omega) (.int .i64 r1.lo)).other (b' := w.heap.size + 1) (k' := 1) (by omega) (.int .i64 r1.hi))
      have HU3 := hid ((HO3.out.other (b' := w.heap.size + 1) (k' := 0) (by omega) (.int .i64 r1.lo)).other (b' := w.heap.size + 1) (k' := 1) (by omega) (.int .i64 r1.hi))
      have HT := hid (show (BoxIs (w4.heap.size) #[.int .i64 r0.lo, .int .i64 r0.hi] ((V1.setCell ⟨w.heap.size + 1, 0, none⟩ (.int .i64 r1.lo)).setCell ⟨w.heap.size + 1, 1, none⟩ (.int .i64 r1.hi)) ∧ BoxIs (w4.heap.size + 1) #[.int .i64 r1.lo, .int .i64 r1.hi] ((V1.setCell ⟨w.heap.size + 1, 0, none⟩ (.int .i64 r1.lo)).setCell ⟨w.heap.size + 1, 1, none⟩ (.int .i64 r1.hi)) ∧ BoxIs (w4.heap.size + 2) #[.int .i64 r2.lo, .int .i64 r2.hi] ((V1.setCell ⟨w.heap.size + 1, 0, none⟩ (.int .i64 r1.lo)).setCell ⟨w.heap.size + 1, 1, none⟩ (.int .i64 r1.hi)) ∧ BoxIs (w4.heap.size + 3) #[.int .i64 r3.lo, .int .i64 r3.hi] ((V1.setCell ⟨w.heap.size + 1, 0, none⟩ (.int .i64 r1.lo)).setCell ⟨w.heap.size + 1, 1, none⟩ (.int .i64 r1.hi))) ∧ Below w.heap.size w ((V1.setCell ⟨w.heap.size + 1, 0, none⟩ (.int .i64 r1.lo)).setCell ⟨w.heap.size + 1, 1, none⟩ (.int .i64 r1.hi)) from ⟨⟨((hS.1.1.other (b' := w.heap.size + 1) (k' := 0) (by omega) (.int .i64 r1.lo)).other (b' := w.heap.size + 1) (k' := 1) (by omega) (.int .i64 r1.hi)), ((hS.1.2.1.other (b' := w.heap.size + 1) (k' := 0) (by omega) (.int .i64 r1.lo)).other (b' := w.heap.size + 1) (k' := 1) (by omega) (.int .i64 r1.hi)), ((hS.1.2.2.1.other (b' := w.heap.size + 1) (k' := 0) (by omega) (.int .i64 r1.lo)).other (b' := w.heap.size + 1) (k' := 1) (by omega) (.int .i64 r1.hi)), ((hS.1.2.2.2.other (b' := w.heap.size + 1) (k' := 0) (by omega) (.int .i64 r1.lo)).other (b' := w.heap.size + 1) (k' := 1) (by omega) (.int .i64 r1.hi))⟩, ((hS.2.setCell (p := ⟨w.heap.size + 1, 0, none⟩) (by show w.heap.size ≤ w.heap.size + 1; omega) (.int .i64 r1.lo)).setCell (p := ⟨w.heap.size + 1, 1, none⟩) (by show w.heap.size ≤ w.heap.size + 1; omega) (.int .i64 r1.hi))⟩)
      clear hS z4
      go_simp
      clear k0 k1 f0 f1
      generalize ((V1.setCell ⟨w.heap.size + 1, 0, none⟩ (.int .i64 r1.lo)).setCell ⟨w.heap.size + 1, 1, none⟩ (.int .i64 r1.hi)) = V2 at HU0 HU1 HU2 HU3 HT ⊢
      replace HO0 := HU0
      replace HO1 := HU1
      replace HO2 := HU2
      replace HO3 := HU3
      refine hK.out _ _ (HT.out) (fun hS => ?_)
      clear hK K
      try simp only [List.setIfInBounds_toArray, List.set_cons_zero, List.set_cons_succ]
      refine wpAnyH_ready (rs := [6]) (by kernel_rfl) (by simp) ?_
      refine AllReadyH.cons (o := _) rfl (fun K hK => ?_) AllReadyH.nil
      have k0 := (HO2.out.2 0 (.int .i64 0) rfl).1; have k1 := (HO2.out.2 1 (.int .i64 0) rfl).1; have f0 := (HO2.out.2 0 (.int .i64 0) rfl).2; have f1 := (HO2.out.2 1 (.int .i64 0) rfl).2
      have z4 := HZ4.out
      have HU0 := hid ((HO0.out.other (b' := w.heap.size + 2) (k' := 0) (by omega) (.int .i64 r2.lo)).other (b' := w.heap.size + 2) (k' := 1) (by omega) (.int .i64 r2.hi))
      have HU1 := hid ((HO1.out.other (b' := w.heap.size + 2) (k' := 0) (by omega) (.int .i64 r2.lo)).other (b' := w.heap.size + 2) (k' := 1) (by omega) (.int .i64 r2.hi))
      have HU2 : Hid (BoxIs (w.heap.size + 2) #[.int .i64 r2.lo, .int .i64 r2.hi] ((V2.setCell ⟨w.heap.size + 2, 0, none⟩ (.int .i64 r2.lo)).setCell ⟨w.heap.size + 2, 1, none⟩ (.int .i64 r2.hi))) := hid ((HO2.out.put (j := 0) (.int .i64 r2.lo)).put (j := 1) (.int .i64 r2.hi))
      have HU3 := hid ((HO3.out.other (b' := w.heap.size + 2) (k' := 0) (by omega) (.int .i64 r2.lo)).other (b' := w.heap.size + 2) (k' := 1) (by omega) (.int .i64 r2.hi))
      have HT := hid (show (BoxIs (w4.heap.size) #[.int .i64 r0.lo, .int .i64 r0.hi] ((V2.setCell ⟨w.heap.size + 2, 0, none⟩ (.int .i64 r2.lo)).setCell ⟨w.heap.size + 2, 1, none⟩ (.int .i64 r2.hi)) ∧ BoxIs (w4.heap.size + 1) #[.int .i64 r1.lo, .int .i64 r1.hi] ((V2.setCell ⟨w.heap.size + 2, 0, none⟩ (.int .i64 r2.lo)).setCell ⟨w.heap.size + 2, 1, none⟩ (.int .i64 r2.hi)) ∧ BoxIs (w4.heap.size + 2) #[.int .i64 r2.lo, .int .i64 r2.hi] ((V2.setCell ⟨w.heap.size + 2, 0, none⟩ (.int .i64 r2.lo)).setCell ⟨w.heap.size + 2, 1, none⟩ (.int .i64 r2.hi)) ∧ BoxIs (w4.heap.size + 3) #[.int .i64 r3.lo, .int .i64 r3.hi] ((V2.setCell ⟨w.heap.size + 2, 0, none⟩ (.int .i64 r2.lo)).setCell ⟨w.heap.size + 2, 1, none⟩ (.int .i64 r2.hi))) ∧ Below w.heap.size w ((V2.setCell ⟨w.heap.size + 2, 0, none⟩ (.int .i64 r2.lo)).setCell ⟨w.heap.size + 2, 1, none⟩ (.int .i64 r2.hi)) from ⟨⟨((hS.1.1.other (b' := w.heap.size + 2) (k' := 0) (by omega) (.int .i64 r2.lo)).other (b' := w.heap.size + 2) (k' := 1) (by omega) (.int .i64 r2.hi)), ((hS.1.2.1.other (b' := w.heap.size + 2) (k' := 0) (by omega) (.int .i64 r2.lo)).other (b' := w.heap.size + 2) (k' := 1) (by omega) (.int .i64 r2.hi)), ((hS.1.2.2.1.other (b' := w.heap.size + 2) (k' := 0) (by omega) (.int .i64 r2.lo)).other (b' := w.heap.size + 2) (k' := 1) (by omega) (.int .i64 r2.hi)), ((hS.1.2.2.2.other (b' := w.heap.size + 2) (k' := 0) (by omega) (.int .i64 r2.lo)).other (b' := w.heap.size + 2) (k' := 1) (by omega) (.int .i64 r2.hi))⟩, ((hS.2.setCell (p := ⟨w.heap.size + 2, 0, none⟩) (by show w.heap.size ≤ w.heap.size + 2; omega) (.int .i64 r2.lo)).setCell (p := ⟨w.heap.size + 2, 1, none⟩) (by show w.heap.size ≤ w.heap.size + 2; omega) (.int .i64 r2.hi))⟩)
      clear hS z4
      go_simp
      clear k0 k1 f0 f1
      generalize ((V2.setCell ⟨w.heap.size + 2, 0, none⟩ (.int .i64 r2.lo)).setCell ⟨w.heap.size + 2, 1, none⟩ (.int .i64 r2.hi)) = V3 at HU0 HU1 HU2 HU3 HT ⊢
      replace HO0 := HU0
      replace HO1 := HU1
      replace HO2 := HU2
      replace HO3 := HU3
      refine hK.out _ _ (HT.out) (fun hS => ?_)
      clear hK K
      try simp only [List.setIfInBounds_toArray, List.set_cons_zero, List.set_cons_succ]
      refine wpAnyH_ready (rs := [7]) (by kernel_rfl) (by simp) ?_
      refine AllReadyH.cons (o := _) rfl (fun K hK => ?_) AllReadyH.nil
      have k0 := (HO3.out.2 0 (.int .i64 0) rfl).1; have k1 := (HO3.out.2 1 (.int .i64 0) rfl).1; have f0 := (HO3.out.2 0 (.int .i64 0) rfl).2; have f1 := (HO3.out.2 1 (.int .i64 0) rfl).2
      have z4 := HZ4.out
      have HU0 := hid ((HO0.out.other (b' := w.heap.size + 3) (k' := 0) (by omega) (.int .i64 r3.lo)).other (b' := w.heap.size + 3) (k' := 1) (by omega) (.int .i64 r3.hi))
      have HU1 := hid ((HO1.out.other (b' := w.heap.size + 3) (k' := 0) (by omega) (.int .i64 r3.lo)).other (b' := w.heap.size + 3) (k' := 1) (by omega) (.int .i64 r3.hi))
      have HU2 := hid ((HO2.out.other (b' := w.heap.size + 3) (k' := 0) (by omega) (.int .i64 r3.lo)).other (b' := w.heap.size + 3) (k' := 1) (by omega) (.int .i64 r3.hi))
      have HU3 : Hid (BoxIs (w.heap.size + 3) #[.int .i64 r3.lo, .int .i64 r3.hi] ((V3.setCell ⟨w.heap.size + 3, 0, none⟩ (.int .i64 r3.lo)).setCell ⟨w.heap.size + 3, 1, none⟩ (.int .i64 r3.hi))) := hid ((HO3.out.put (j := 0) (.int .i64 r3.lo)).put (j := 1) (.int .i64 r3.hi))
      have HT := hid (show (BoxIs (w4.heap.size) #[.int .i64 r0.lo, .int .i64 r0.hi] ((V3.setCell ⟨w.heap.size + 3, 0, none⟩ (.int .i64 r3.lo)).setCell ⟨w.heap.size + 3, 1, none⟩ (.int .i64 r3.hi)) ∧ BoxIs (w4.heap.size + 1) #[.int .i64 r1.lo, .int .i64 r1.hi] ((V3.setCell ⟨w.heap.size + 3, 0, none⟩ (.int .i64 r3.lo)).setCell ⟨w.heap.size + 3, 1, none⟩ (.int .i64 r3.hi)) ∧ BoxIs (w4.heap.size + 2) #[.int .i64 r2.lo, .int .i64 r2.hi] ((V3.setCell ⟨w.heap.size + 3, 0, none⟩ (.int .i64 r3.lo)).setCell ⟨w.heap.size + 3, 1, none⟩ (.int .i64 r3.hi)) ∧ BoxIs (w4.heap.size + 3) #[.int .i64 r3.lo, .int .i64 r3.hi] ((V3.setCell ⟨w.heap.size + 3, 0, none⟩ (.int .i64 r3.lo)).setCell ⟨w.heap.size + 3, 1, none⟩ (.int .i64 r3.hi))) ∧ Below w.heap.size w ((V3.setCell ⟨w.heap.size + 3, 0, none⟩ (.int .i64 r3.lo)).setCell ⟨w.heap.size + 3, 1, none⟩ (.int .i64 r3.hi)) from ⟨⟨((hS.1.1.other (b' := w.heap.size + 3) (k' := 0) (by omega) (.int .i64 r3.lo)).other (b' := w.heap.size + 3) (k' := 1) (by omega) (.int .i64 r3.hi)), ((hS.1.2.1.other (b' := w.heap.size + 3) (k' := 0) (by omega) (.int .i64 r3.lo)).other (b' := w.heap.size + 3) (k' := 1) (by omega) (.int .i64 r3.hi)), ((hS.1.2.2.1.other (b' := w.heap.size + 3) (k' := 0) (by omega) (.int .i64 r3.lo)).other (b' := w.heap.size + 3) (k' := 1) (by omega) (.int .i64 r3.hi)), ((hS.1.2.2.2.other (b' := w.heap.size + 3) (k' := 0) (by omega) (.int .i64 r3.lo)).other (b' := w.heap.size + 3) (k' := 1) (by omega) (.int .i64 r3.hi))⟩, ((hS.2.setCell (p := ⟨w.heap.size + 3, 0, none⟩) (by show w.heap.size ≤ w.heap.size + 3; omega) (.int .i64 r3.lo)).setCell (p := ⟨w.heap.size + 3, 1, none⟩) (by show w.heap.size ≤ w.heap.size + 3; omega) (.int .i64 r3.hi))⟩)
      clear hS z4
      go_simp
      clear k0 k1 f0 f1
      generalize ((V3.setCell ⟨w.heap.size + 3, 0, none⟩ (.int .i64 r3.lo)).setCell ⟨w.heap.size + 3, 1, none⟩ (.int .i64 r3.hi)) = V4 at HU0 HU1 HU2 HU3 HT ⊢
      replace HO0 := HU0
      replace HO1 := HU1
      replace HO2 := HU2
      replace HO3 := HU3
      refine hK.out _ _ (HT.out) (fun hS => ?_)
      clear hK K
      try simp only [List.setIfInBounds_toArray, List.set_cons_zero, List.set_cons_succ]
      refine wpAnyH_done (by kernel_rfl) ?_ _
      have HBf := hid hS.2
      clear hS
      have y00 := (HO0.out.2 0 (.int .i64 r0.lo) rfl).1; have y01 := (HO0.out.2 1 (.int .i64 r0.hi) rfl).1; have y10 := (HO1.out.2 0 (.int .i64 r1.lo) rfl).1; have y11 := (HO1.out.2 1 (.int .i64 r1.hi) rfl).1; have y20 := (HO2.out.2 0 (.int .i64 r2.lo) rfl).1; have y21 := (HO2.out.2 1 (.int .i64 r2.hi) rfl).1; have y30 := (HO3.out.2 0 (.int .i64 r3.lo) rfl).1; have y31 := (HO3.out.2 1 (.int .i64 r3.hi) rfl).1
      go_wp2_with fail
      refine bodyPost_ret (v := .tuple #[.agg #[.int .i64 r0.lo, .int .i64 r0.hi], .agg #[.int .i64 r1.lo, .int .i64 r1.hi], .agg #[.int .i64 r2.lo, .int .i64 r2.hi], .agg #[.int .i64 r3.lo, .int .i64 r3.hi]]) (by simp [results, Try.f58, go_sem, y00, y01, y10, y11, y20, y21, y30, y31]) rfl ?_
      exact ⟨by rw [HQ0.out, HQ1.out, HQ2.out, HQ3.out], HBf.out⟩
end Go.Proofs.Ytfnefkenheglhaa
