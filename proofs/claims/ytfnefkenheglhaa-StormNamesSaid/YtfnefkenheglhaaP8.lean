/- Package storm: whether some place of a rectangle is hit, or is not. No condition. -/
import Derived.Test.YtfnefkenheglhaaP7
import Derived.Test.YtfnefkenheglhaaRanB
namespace Go.Proofs.Ytfnefkenheglhaa
open Go.RowKit
attribute [local go_sem] Oper.semAt_some

def hitsB (s : Sto) (t : Tru) (x y : Rng) (inn : Bool) : Bool := (placesL x y).any fun q => hitB s t q.1 q.2 == inn
theorem Boxed2.near {w : World} {cs ds : Array Value} {T U : TypeId} {S : Nat → Prop} {W W' : World} (h : Boxed2 w cs T ds U W) (hn : Near S W W') (hS : ∀ k, S k → w.heap.size + 2 ≤ k) : Boxed2 w cs T ds U W' :=
  Below.trans h (hn.below h.size (fun k hk hs => by have := hS k hs; omega))
theorem encP_size2 (p : Int × Int) : (encP p).size = #[13, 14].size := rfl
/-- A rectangle in the grid is small. -/
structure SmallQ (x y : Rng) : Prop where
  x0 : 0 ≤ x.lo
  x9 : x.hi ≤ 11
  y0 : 0 ≤ y.lo
  y9 : y.hi ≤ 11
  xx : x.lo ≤ x.hi
  yy : y.lo ≤ y.hi
theorem OkS.smallQ {s : Sto} (h : OkS s) {x y : Rng} (hr : rectB s x y = true) : SmallQ x y := by
  simp only [rectB, Bool.and_eq_true, Rng.of_iff] at hr
  have := h.w12; have := h.h12
  constructor <;> omega
theorem SmallQ.rx {x y : Rng} (h : SmallQ x y) : SmallR x := by have := h.x0; have := h.x9; have := h.xx; constructor <;> omega
theorem SmallQ.ry {x y : Rng} (h : SmallQ x y) : SmallR y := by have := h.y0; have := h.y9; have := h.yy; constructor <;> omega

set_option maxRecDepth 40000 in
set_option maxHeartbeats 8000000 in
theorem hits_any (s : Sto) (p : Option Addr) (n c : Nat) (t : Tru) (x y : Rng) (inn : Bool) (w : World) (hs : SmallS s) (ht : SmallT t) (hq : SmallQ x y) :
    Calls Try.prog 93 #[.agg #[.int .i64 s.wide, .int .i64 s.high, .int .i64 s.fall, .int .i64 s.a.lo, .int .i64 s.a.hi, .int .i64 s.b.lo, .int .i64 s.b.hi, .int .i64 s.half.lo, .int .i64 s.half.hi, .int .i64 s.peak.lo, .int .i64 s.peak.hi, .slice p n c], .agg #[.int .i64 t.a, .int .i64 t.b, .int .i64 t.half, .int .i64 t.peak], .agg #[.int .i64 x.lo, .int .i64 x.hi, .int .i64 y.lo, .int .i64 y.hi], .bool inn] w fun e w' => e = .returned (.bool (hitsB s t x y inn)) ∧ Below w.heap.size w w' := by
  have HS := hid (fun x y W hx hx' hy hy' => size_any s p n c t x y W hs ht hx hx' hy hy')
  have HG := hid (fun W B (hR : RecAt W B x y) => places_gives x y B hq.rx hq.ry W 21 hR)
  have HK := hid hq
  clear hs ht hq
  obtain ⟨W0, hW0⟩ : ∃ W, ((((w.alloc (.cells #[.int .i64 s.wide, .int .i64 s.high, .int .i64 s.fall, .int .i64 s.a.lo, .int .i64 s.a.hi, .int .i64 s.b.lo, .int .i64 s.b.hi, .int .i64 s.half.lo, .int .i64 s.half.hi, .int .i64 s.peak.lo, .int .i64 s.peak.hi, .slice p n c] 35)).alloc (.cells #[.int .i64 t.a, .int .i64 t.b, .int .i64 t.half, .int .i64 t.peak] 94)).alloc (.cells #[.int .i64 x.lo, .int .i64 x.hi, .int .i64 y.lo, .int .i64 y.hi] 70)).alloc (.cells #[.bool inn] 4)).alloc (.cells #[.bool false] 4) = W := ⟨_, rfl⟩
  have HB0 : Hid (Boxed2 w #[.int .i64 s.wide, .int .i64 s.high, .int .i64 s.fall, .int .i64 s.a.lo, .int .i64 s.a.hi, .int .i64 s.b.lo, .int .i64 s.b.hi, .int .i64 s.half.lo, .int .i64 s.half.hi, .int .i64 s.peak.lo, .int .i64 s.peak.hi, .slice p n c] 35 #[.int .i64 t.a, .int .i64 t.b, .int .i64 t.half, .int .i64 t.peak] 94 W0) := by show Boxed2 _ _ _ _ _ _; rw [← hW0]; exact (((Below.refl _ _).alloc (by simp) _).alloc (by simp) _).alloc (by simp) _
  have HR0 : Hid (RecAt W0 (w.heap.size + 2) x y) := by
    show RecAt _ _ _ _
    have h := RecAt.of (x := x) (y := y) (cell_box ((w.alloc (.cells #[.int .i64 s.wide, .int .i64 s.high, .int .i64 s.fall, .int .i64 s.a.lo, .int .i64 s.a.hi, .int .i64 s.b.lo, .int .i64 s.b.hi, .int .i64 s.half.lo, .int .i64 s.half.hi, .int .i64 s.peak.lo, .int .i64 s.peak.hi, .slice p n c] 35)).alloc (.cells #[.int .i64 t.a, .int .i64 t.b, .int .i64 t.half, .int .i64 t.peak] 94)) #[.int .i64 x.lo, .int .i64 x.hi, .int .i64 y.lo, .int .i64 y.hi] 70)
    rw [World.size_alloc, World.size_alloc] at h
    rw [← hW0]
    exact (h.below ((Below.refl _ _).alloc (Nat.le_refl _) _)).below ((Below.refl _ _).alloc (Nat.le_refl _) _)
  have HI0 : Hid (BoxIs (w.heap.size + 3) #[.bool inn] W0) := by
    show BoxIs _ _ _
    have h := (BoxIs.start (((w.alloc (.cells #[.int .i64 s.wide, .int .i64 s.high, .int .i64 s.fall, .int .i64 s.a.lo, .int .i64 s.a.hi, .int .i64 s.b.lo, .int .i64 s.b.hi, .int .i64 s.half.lo, .int .i64 s.half.hi, .int .i64 s.peak.lo, .int .i64 s.peak.hi, .slice p n c] 35)).alloc (.cells #[.int .i64 t.a, .int .i64 t.b, .int .i64 t.half, .int .i64 t.peak] 94)).alloc (.cells #[.int .i64 x.lo, .int .i64 x.hi, .int .i64 y.lo, .int .i64 y.hi] 70)) #[.bool inn] 4).below ((Below.refl _ _).alloc (Nat.le_refl _) (.cells #[.bool false] 4))
    rw [World.size_alloc, World.size_alloc, World.size_alloc, hW0] at h
    exact h
  have HX0 : Hid (BoxIs (w.heap.size + 4) #[.bool false] W0) := by
    show BoxIs _ _ _
    have h := BoxIs.start ((((w.alloc (.cells #[.int .i64 s.wide, .int .i64 s.high, .int .i64 s.fall, .int .i64 s.a.lo, .int .i64 s.a.hi, .int .i64 s.b.lo, .int .i64 s.b.hi, .int .i64 s.half.lo, .int .i64 s.half.hi, .int .i64 s.peak.lo, .int .i64 s.peak.hi, .slice p n c] 35)).alloc (.cells #[.int .i64 t.a, .int .i64 t.b, .int .i64 t.half, .int .i64 t.peak] 94)).alloc (.cells #[.int .i64 x.lo, .int .i64 x.hi, .int .i64 y.lo, .int .i64 y.hi] 70)).alloc (.cells #[.bool inn] 4)) #[.bool false] 4
    rw [World.size_alloc, World.size_alloc, World.size_alloc, World.size_alloc, hW0] at h
    exact h
  have HZ0 : Hid (W0.heap.size = w.heap.size + 5) := by show _ = _; rw [← hW0]; simp
  refine (callsIn_wide (n := 22)).1 ?_
  refine callsIn_of_wp_marks Try.func93 rfl trivial ?_ rfl
  simp only [Try.ntmps93, List.size_toArray, List.length_cons, List.length_nil, Nat.reduceAdd, Nat.reduceSub, Array.replicate_succ, Array.replicate_zero, List.push_toArray, List.append_toArray, List.nil_append, List.cons_append]
  have k0 := HR0.out.c0; have k1 := HR0.out.c1; have k2 := HR0.out.c2; have k3 := HR0.out.c3
  gi_wp2
  refine ⟨trivial, ?_⟩
  gi_at_call 78
  refine (callsIn_wide.2 (placesF_any _ _ _)).mono ?_
  rintro e w5 ⟨rfl, rfl⟩
  clear k0 k1 k2 k3 hW0
  gi_wp2
  obtain ⟨W5, hW5⟩ : ∃ W, W0.alloc (.cells #[.int .i64 x.lo, .int .i64 x.hi, .int .i64 y.lo, .int .i64 y.hi] 70) = W := ⟨_, rfl⟩
  have hR5 : RecAt W5 W0.heap.size x y := by rw [← hW5]; exact RecAt.of (fun i v hi => cell_box W0 _ 70 i v hi)
  have hb5 : Below W0.heap.size W0 W5 := by rw [← hW5]; exact (Below.refl _ _).alloc (Nat.le_refl _) _
  have hz5 : W5.heap.size = w.heap.size + 6 := by rw [← hW5, World.size_alloc, HZ0.out]
  have hz0 := HZ0.out
  rw [hW5]
  clear hW5
  refine wpIn_rangeFunc_near3 rfl (by omega) (gf := 113) (lb := #[.pointer (some ⟨W0.heap.size, 0, none⟩)]) rfl trivial (enters_of Try.func113 (by kernel_rfl) rfl) encP_size2
    (HG.out W5 W0.heap.size hR5) (Below.refl _ _) (fun i hi => by omega) (fun i => i = w.heap.size + 4) (fun i hi => ⟨by omega, by omega⟩)
    (fun pre W => (pre.all fun q => !(hitB s t q.1 q.2 == inn)) = true ∧ Boxed2 w #[.int .i64 s.wide, .int .i64 s.high, .int .i64 s.fall, .int .i64 s.a.lo, .int .i64 s.a.hi, .int .i64 s.b.lo, .int .i64 s.b.hi, .int .i64 s.half.lo, .int .i64 s.half.hi, .int .i64 s.peak.lo, .int .i64 s.peak.hi, .slice p n c] 35 #[.int .i64 t.a, .int .i64 t.b, .int .i64 t.half, .int .i64 t.peak] 94 W ∧ RecAt W (w.heap.size + 2) x y ∧ BoxIs (w.heap.size + 3) #[.bool inn] W ∧ BoxIs (w.heap.size + 4) #[.bool false] W)
    (fun pre W => (pre.any fun q => hitB s t q.1 q.2 == inn) = true ∧ Below w.heap.size w W ∧ W.cell? ⟨w.heap.size + 4, 0, none⟩ = some (.bool true))
    (fun pre W1 W2 h hn => ⟨h.1, h.2.1.near hn (by omega), h.2.2.1.near hn (by omega), h.2.2.2.1.near hn (by omega), h.2.2.2.2.near hn (by omega)⟩)
    (fun pre W1 W2 h hn => ⟨h.1, h.2.1.trans (hn.below h.2.1.size (by omega)), (hn.cell (World.block_lt_of_cell? _ _ h.2.2) (by show ¬ (w.heap.size + 4 = _ ∨ w.heap.size + 4 = _); omega)).trans h.2.2⟩)
    ⟨rfl, HB0.out.step1 hb5, HR0.out.below hb5, HI0.out.below hb5, HX0.out.below hb5⟩ ?round ?done ?stop
  case round =>
    rintro pre ⟨a, b⟩ rest W hall hsz ⟨hp, hB, hR, hI, hX⟩
    have hmem : (a, b) ∈ placesL x y := by rw [hall]; simp
    have hxy := mem_places.1 hmem
    simp only at hxy
    have x0 := HK.out.x0; have x9 := HK.out.x9; have y0 := HK.out.y0; have y9 := HK.out.y9
    have xa : 0 ≤ a := by omega
    have xb : a ≤ 11 := by omega
    have ya : 0 ≤ b := by omega
    have yb : b ≤ 11 := by omega
    have HP := hid hp; have HB := hid hB; have HX := hid hX; have HR := hid hR; have HI := hid hI; have HZ := hid hsz
    have HZ5 : Hid (W5.heap.size = w.heap.size + 6) := hz5
    clear hall hp hB hX hR hI hsz hmem hxy x0 x9 y0 y9 hz5 hz0 hb5 hR5
    simp only [encP]
    gi_wp2
    refine ⟨Near.refl _ _, fun W2 hn2 => ?_⟩
    have HB2 : Hid (Boxed2 w #[.int .i64 s.wide, .int .i64 s.high, .int .i64 s.fall, .int .i64 s.a.lo, .int .i64 s.a.hi, .int .i64 s.b.lo, .int .i64 s.b.hi, .int .i64 s.half.lo, .int .i64 s.half.hi, .int .i64 s.peak.lo, .int .i64 s.peak.hi, .slice p n c] 35 #[.int .i64 t.a, .int .i64 t.b, .int .i64 t.half, .int .i64 t.peak] 94 W2) := HB.out.near hn2 (fun i hi => by have := HZ5.out; omega)
    have HR2 : Hid (RecAt W2 (w.heap.size + 2) x y) := HR.out.near hn2 (by have := HZ5.out; omega)
    have HI2 : Hid (BoxIs (w.heap.size + 3) #[.bool inn] W2) := HI.out.near hn2 (by have := HZ5.out; omega)
    have HX2 : Hid (BoxIs (w.heap.size + 4) #[.bool false] W2) := HX.out.near hn2 (by have := HZ5.out; omega)
    clear hn2 HB HX HR HI
    gi_wp2
    refine wpIn_region_held_round (S := fun V => Boxed2 w #[.int .i64 s.wide, .int .i64 s.high, .int .i64 s.fall, .int .i64 s.a.lo, .int .i64 s.a.hi, .int .i64 s.b.lo, .int .i64 s.b.hi, .int .i64 s.half.lo, .int .i64 s.half.hi, .int .i64 s.peak.lo, .int .i64 s.peak.hi, .slice p n c] 35 #[.int .i64 t.a, .int .i64 t.b, .int .i64 t.half, .int .i64 t.peak] 94 V ∧ BoxIs (w.heap.size + 3) #[.bool inn] V) (by kernel_rfl) (by kernel_rfl) (fun ⟨_, _, h⟩ => h) ⟨HB2.out.drew, HI2.out.below (Below.refl _ _).drew⟩ (fun hS => ?_)
    simp only [List.size_toArray, List.length_cons, List.length_nil, Nat.reduceAdd, Array.replicate_succ, Array.replicate_zero, List.push_toArray, List.nil_append, List.cons_append]
    refine tkH (i := 0) (v := ?_) (fun V hV => ?_) ?_
    rotate_left
    · have e0 := (StoAt.of hV.1.cell1).c0; have e1 := (StoAt.of hV.1.cell1).c1; have e2 := (StoAt.of hV.1.cell1).c2; have e3 := (StoAt.of hV.1.cell1).c3; have e4 := (StoAt.of hV.1.cell1).c4; have e5 := (StoAt.of hV.1.cell1).c5; have e6 := (StoAt.of hV.1.cell1).c6; have e7 := (StoAt.of hV.1.cell1).c7; have e8 := (StoAt.of hV.1.cell1).c8; have e9 := (StoAt.of hV.1.cell1).c9; have e10 := (StoAt.of hV.1.cell1).c10; have e11 := (StoAt.of hV.1.cell1).c11; go_simp
      try with_reducible rfl
    try simp only [Act.put, List.getElem_toArray, List.getElem_cons_zero, List.setIfInBounds_toArray, List.set_cons_zero, List.set_cons_succ]
    refine tkH (i := 1) (v := ?_) (fun V hV => ?_) ?_
    rotate_left
    · have f0 := (TruAt.of hV.1.cell2).c0; have f1 := (TruAt.of hV.1.cell2).c1; have f2 := (TruAt.of hV.1.cell2).c2; have f3 := (TruAt.of hV.1.cell2).c3; go_simp
      try with_reducible rfl
    try simp only [Act.put, List.getElem_toArray, List.getElem_cons_zero, List.getElem_cons_succ, List.setIfInBounds_toArray, List.set_cons_zero, List.set_cons_succ]
    refine tkH (i := 2) (v := ?_) (fun V hV => ?_) ?_
    rotate_left
    · go_simp
      try with_reducible rfl
    try simp only [Act.put, List.getElem_toArray, List.getElem_cons_zero, List.getElem_cons_succ, List.setIfInBounds_toArray, List.set_cons_zero, List.set_cons_succ]
    refine tkH (i := 3) (v := ?_) (fun V hV => ?_) ?_
    rotate_left
    · go_simp
      try with_reducible rfl
    try simp only [Act.put, List.getElem_toArray, List.getElem_cons_zero, List.getElem_cons_succ, List.setIfInBounds_toArray, List.set_cons_zero, List.set_cons_succ]
    refine tkH (i := 6) (v := ?_) (fun V hV => ?_) ?_
    rotate_left
    · have g0 := (hV.2.2 0 _ rfl).1; go_simp
      try with_reducible rfl
    try simp only [Act.put, List.getElem_toArray, List.getElem_cons_zero, List.getElem_cons_succ, List.setIfInBounds_toArray, List.set_cons_zero, List.set_cons_succ]
    refine wpAnyH_ready (rs := [4]) (by kernel_rfl) (by simp) ?_
    refine AllReadyH.cons (o := _) rfl (fun K hK => ?_) AllReadyH.nil
    go_simp
    (with_reducible refine (HS.out a b _ xa xb ya yb).mono ?_)
    rintro e W3 ⟨rfl, hb3⟩
    have hbb : Below W2.heap.size W2 W3 := (Below.refl _ _).drew.trans hb3
    have HN3 : Hid (Near (fun i => i = w.heap.size + 4) W2 W3) := hid (Near.of_below hbb (fun i h1 h2 => by omega))
    have HX3 : Hid (BoxIs (w.heap.size + 4) #[.bool false] W3) := hid (HX2.out.below hbb)
    have HR3 : Hid (RecAt W3 (w.heap.size + 2) x y) := hid (HR2.out.below hbb)
    clear hbb
    refine hK.out _ _ (⟨hS.1.step1 hb3, hS.2.below hb3⟩) (fun hS => ?_)
    clear hK K
    try simp only [List.setIfInBounds_toArray, List.set_cons_zero, List.set_cons_succ]
    refine tkH (i := 5) (v := ?_) (fun V hV => ?_) ?_
    rotate_left
    · go_simp
      try with_reducible rfl
    try simp only [Act.put, List.getElem_toArray, List.getElem_cons_zero, List.getElem_cons_succ, List.setIfInBounds_toArray, List.set_cons_zero, List.set_cons_succ]
    refine tkH (i := 7) (v := ?_) (fun V hV => ?_) ?_
    rotate_left
    · go_simp
      try with_reducible rfl
    try simp only [Act.put, List.getElem_toArray, List.getElem_cons_zero, List.getElem_cons_succ, List.setIfInBounds_toArray, List.set_cons_zero, List.set_cons_succ]
    refine wpAnyH_done (by kernel_rfl) ?_ _
    have HF := hid hS
    have h6 : decide (0 < sizeS s t a b) = hitB s t a b := size_pos
    clear hS
    generalize sizeS s t a b = z at *
    have g0 := (HX3.out.2 0 _ rfl).1; have g1 := (HX3.out.2 0 _ rfl).2
    have H6 := hid h6
    clear h6
    gi_wp2
    · have hv : (decide (0 < z) == inn) = true := by assumption
      have HV : (hitB s t a b == inn) = true := by rw [← H6.out]; exact hv
      exact ⟨HN3.out.setCell (p := ⟨w.heap.size + 4, 0, none⟩) (fun _ => rfl) _, by simp only [List.any_append, List.any_cons, HV, Bool.true_or, Bool.or_true], HF.out.1.below.setCell (p := ⟨w.heap.size + 4, 0, none⟩) (by show w.heap.size ≤ w.heap.size + 4; omega) _, World.cell?_setCell_same' _ _ _ (by rw [g0]; rfl)⟩
    · have hv : (decide (0 < z) == inn) = false := by assumption
      have HV : (hitB s t a b == inn) = false := by rw [← H6.out]; exact hv
      exact ⟨HN3.out, by rw [List.all_append, HP.out]; simp only [List.all_cons, HV, Bool.not_false, List.all_nil, Bool.and_self], HF.out.1, HR3.out, HF.out.2, HX3.out⟩
  case done =>
    rintro W ⟨hp, hB, hR, hI, hX⟩ hK hsz
    have HP := hid hp; have HB := hid hB; have HX := hid hX
    have HZ5 : Hid (W5.heap.size = w.heap.size + 6) := hz5
    have g0 := (HX.out.2 0 (.bool false) rfl).1; have g1 := (HX.out.2 0 (.bool false) rfl).2
    clear hp hB hX hR hI hz5 hz0 hb5 hR5 hsz
    gi_wp2
    have hz5 := HZ5.out
    have hK' : (W.setCell ⟨w.heap.size + 4, 0, none⟩ (.bool false)).heap[W5.heap.size]? = some (.deferred (some [])) := (Below.heap_setCell _ _ _ _ (by show _ ≠ w.heap.size + 4; omega)).trans hK
    refine ⟨by simp, .inl ⟨_, _, rfl, run_takeDeferred hK', ?_⟩⟩
    have hX2 : BoxIs (w.heap.size + 4) #[.bool false] (W.setCell ⟨w.heap.size + 4, 0, none⟩ (.bool false)) := HX.out.put (j := 0) _
    have hc5 := ((hX2.near (Near.putObj W5.heap.size (.deferred none)) (by omega)).2 0 (.bool false) rfl).1
    refine ⟨.bool false, ?_, ?_, ?_⟩
    · simp [results, Try.f93, go_sem, hc5]
    · have : hitsB s t x y inn = false := by
        rw [hitsB, List.any_eq_false]
        intro q hq
        have := List.all_eq_true.1 HP.out q hq
        simpa using this
      rw [this]
    · exact (HB.out.below.setCell (p := ⟨w.heap.size + 4, 0, none⟩) (by show w.heap.size ≤ w.heap.size + 4; omega) _).trans ((Near.putObj _ _).below (by simp [World.setCell]; exact HB.out.below.size) (fun i hi => by omega))
  case stop =>
    rintro pre rest W hall ⟨hm1, hbW, hcW⟩ hK hsz
    have HM1 := hid hm1
    have HAL := hid hall
    have HZ5 : Hid (W5.heap.size = w.heap.size + 6) := hz5
    have HCW := hid hcW
    clear hm1 hall hz5 hz0 hb5 hR5 hsz hcW
    gi_wp2
    have hz5 := HZ5.out
    refine ⟨by simp, .inl ⟨_, _, rfl, run_takeDeferred hK, ?_⟩⟩
    have hc5 : (W.putObj W5.heap.size (.deferred none)).cell? ⟨w.heap.size + 4, 0, none⟩ = some (.bool true) :=
      ((Near.putObj W5.heap.size (.deferred none)).cell (World.block_lt_of_cell? _ _ HCW.out) (by show ¬ (w.heap.size + 4 = _); omega)).trans HCW.out
    refine ⟨.bool true, ?_, ?_, ?_⟩
    · simp [results, Try.f93, go_sem, hc5]
    · have : hitsB s t x y inn = true := by rw [hitsB, ← HAL.out, List.any_append, HM1.out]; rfl
      rw [this]
    · exact hbW.trans ((Near.putObj _ _).below hbW.size (fun i hi => by omega))
end Go.Proofs.Ytfnefkenheglhaa
