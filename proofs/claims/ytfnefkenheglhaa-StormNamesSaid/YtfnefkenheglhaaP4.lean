/- Package storm: whether a card is right in a truth. No condition. -/
import Derived.Test.YtfnefkenheglhaaP3
import Derived.Test.YtfnefkenheglhaaA3
import Derived.Laws.EntriesVeiled
namespace Go.Proofs.Ytfnefkenheglhaa
open Go.RowKit

attribute [local go_sem] Oper.semAt_some

theorem Boxed3.near {w : World} {cs ds es : Array Value} {T U V : TypeId} {S : Nat → Prop} {W W' : World} (h : Boxed3 w cs T ds U es V W) (hn : Near S W W') (hS : ∀ k, S k → w.heap.size + 3 ≤ k) : Boxed3 w cs T ds U es V W' :=
  Below.trans h (hn.below h.size (fun k hk hs => by have := hS k hs; omega))
theorem BoxIs.near {S : Nat → Prop} {b : Nat} {vs : Array Value} {W W' : World} (h : BoxIs b vs W) (hn : Near S W W') (hS : ¬ S b) : BoxIs b vs W' :=
  ⟨Nat.lt_of_lt_of_le h.1 hn.size, fun k v hk => ⟨(hn.cell (p := ⟨b, k, none⟩) h.1 hS).trans (h.2 k v hk).1, (hn.frozen (p := ⟨b, k, none⟩) h.1 hS).trans (h.2 k v hk).2⟩⟩
theorem SmallK.rx {k : Crd} (h : SmallK k) : SmallR k.x := by have := h.x0; have := h.x9; have := h.xx; constructor <;> omega
theorem SmallK.ry {k : Crd} (h : SmallK k) : SmallR k.y := by have := h.y0; have := h.y9; have := h.yy; constructor <;> omega
theorem size_nn (s : Sto) (t : Tru) (x y : Int) : 0 ≤ sizeS s t x y := by
  unfold sizeS
  split
  · split <;> omega
  · omega
theorem encP_size (p : Int × Int) : (encP p).size = #[16, 17].size := rfl

set_option maxRecDepth 40000 in
set_option maxHeartbeats 8000000 in
theorem fits_any (s : Sto) (p : Option Addr) (n c : Nat) (t : Tru) (k : Crd) (w : World) (hs : SmallS s) (ht : SmallT t) (hk : SmallK k) :
    Calls Try.prog 116 #[.agg #[.int .i64 s.wide, .int .i64 s.high, .int .i64 s.fall, .int .i64 s.a.lo, .int .i64 s.a.hi, .int .i64 s.b.lo, .int .i64 s.b.hi, .int .i64 s.half.lo, .int .i64 s.half.hi, .int .i64 s.peak.lo, .int .i64 s.peak.hi, .slice p n c], .agg #[.int .i64 t.a, .int .i64 t.b, .int .i64 t.half, .int .i64 t.peak], .agg #[.int .i64 k.x.lo, .int .i64 k.x.hi, .int .i64 k.y.lo, .int .i64 k.y.hi, .bool k.hail, .int .i64 k.size.lo, .int .i64 k.size.hi]] w fun e w' => e = .returned (.bool (fitsB s t k)) ∧ Below w.heap.size w w' := by
  have HS := hid (fun x y W hx hx' hy hy' => size_any s p n c t x y W hs ht hx hx' hy hy')
  have HG := hid (fun W B (hR : RecAt W B k.x k.y) => places_gives k.x k.y B hk.rx hk.ry W 21 hR)
  have HK := hid hk
  clear hs ht hk
  obtain ⟨W0, hW0⟩ : ∃ W, (((w.alloc (.cells #[.int .i64 s.wide, .int .i64 s.high, .int .i64 s.fall, .int .i64 s.a.lo, .int .i64 s.a.hi, .int .i64 s.b.lo, .int .i64 s.b.hi, .int .i64 s.half.lo, .int .i64 s.half.hi, .int .i64 s.peak.lo, .int .i64 s.peak.hi, .slice p n c] 35)).alloc (.cells #[.int .i64 t.a, .int .i64 t.b, .int .i64 t.half, .int .i64 t.peak] 94)).alloc (.cells #[.int .i64 k.x.lo, .int .i64 k.x.hi, .int .i64 k.y.lo, .int .i64 k.y.hi, .bool k.hail, .int .i64 k.size.lo, .int .i64 k.size.hi] 119)).alloc (.cells #[.bool false] 4) = W := ⟨_, rfl⟩
  have HB0 : Hid (Boxed3 w #[.int .i64 s.wide, .int .i64 s.high, .int .i64 s.fall, .int .i64 s.a.lo, .int .i64 s.a.hi, .int .i64 s.b.lo, .int .i64 s.b.hi, .int .i64 s.half.lo, .int .i64 s.half.hi, .int .i64 s.peak.lo, .int .i64 s.peak.hi, .slice p n c] 35 #[.int .i64 t.a, .int .i64 t.b, .int .i64 t.half, .int .i64 t.peak] 94 #[.int .i64 k.x.lo, .int .i64 k.x.hi, .int .i64 k.y.lo, .int .i64 k.y.hi, .bool k.hail, .int .i64 k.size.lo, .int .i64 k.size.hi] 119 W0) := by show Boxed3 _ _ _ _ _ _ _ _; rw [← hW0]; exact (Below.refl _ _).alloc (by simp) _
  have HX0 : Hid (BoxIs (w.heap.size + 3) #[.bool false] W0) := by
    show BoxIs _ _ _
    have h := BoxIs.start (((w.alloc (.cells #[.int .i64 s.wide, .int .i64 s.high, .int .i64 s.fall, .int .i64 s.a.lo, .int .i64 s.a.hi, .int .i64 s.b.lo, .int .i64 s.b.hi, .int .i64 s.half.lo, .int .i64 s.half.hi, .int .i64 s.peak.lo, .int .i64 s.peak.hi, .slice p n c] 35)).alloc (.cells #[.int .i64 t.a, .int .i64 t.b, .int .i64 t.half, .int .i64 t.peak] 94)).alloc (.cells #[.int .i64 k.x.lo, .int .i64 k.x.hi, .int .i64 k.y.lo, .int .i64 k.y.hi, .bool k.hail, .int .i64 k.size.lo, .int .i64 k.size.hi] 119)) #[.bool false] 4
    rw [World.size_alloc, World.size_alloc, World.size_alloc, hW0] at h
    exact h
  have HZ0 : Hid (W0.heap.size = w.heap.size + 4) := by show _ = _; rw [← hW0]; simp
  refine (callsIn_wide (n := 22)).1 ?_
  refine callsIn_of_wp_marks Try.func116 rfl trivial ?_ rfl
  simp only [Try.ntmps116, List.size_toArray, List.length_cons, List.length_nil, Nat.reduceAdd, Nat.reduceSub, Array.replicate_succ, Array.replicate_zero, List.push_toArray, List.append_toArray, List.nil_append, List.cons_append]
  have k0 := (CrdAt.of HB0.out.cell3).c0; have k1 := (CrdAt.of HB0.out.cell3).c1; have k2 := (CrdAt.of HB0.out.cell3).c2; have k3 := (CrdAt.of HB0.out.cell3).c3
  gi_wp2
  refine ⟨trivial, ?_⟩
  gi_at_call 78
  refine (callsIn_wide.2 (placesF_any _ _ _)).mono ?_
  rintro e w5 ⟨rfl, rfl⟩
  clear k0 k1 k2 k3 hW0
  gi_wp2
  obtain ⟨W5, hW5⟩ : ∃ W, W0.alloc (.cells #[.int .i64 k.x.lo, .int .i64 k.x.hi, .int .i64 k.y.lo, .int .i64 k.y.hi] 70) = W := ⟨_, rfl⟩
  have hR5 : RecAt W5 W0.heap.size k.x k.y := by rw [← hW5]; exact RecAt.of (fun i v hi => cell_box W0 _ 70 i v hi)
  have hb5 : Below W0.heap.size W0 W5 := by rw [← hW5]; exact (Below.refl _ _).alloc (Nat.le_refl _) _
  have hz5 : W5.heap.size = w.heap.size + 5 := by rw [← hW5, World.size_alloc, HZ0.out]
  have hz0 := HZ0.out
  rw [hW5]
  clear hW5
  refine wpIn_rangeFunc_near3 rfl (by omega) (gf := 113) (lb := #[.pointer (some ⟨W0.heap.size, 0, none⟩)]) rfl trivial (enters_of Try.func113 (by kernel_rfl) rfl) encP_size
    (HG.out W5 W0.heap.size hR5) (Below.refl _ _) (fun i hi => by omega) (fun i => i = w.heap.size + 3) (fun i hi => ⟨by omega, by omega⟩)
    (fun pre W => (pre.all fun q => !fitsP s t k q.1 q.2) = true ∧ Boxed3 w #[.int .i64 s.wide, .int .i64 s.high, .int .i64 s.fall, .int .i64 s.a.lo, .int .i64 s.a.hi, .int .i64 s.b.lo, .int .i64 s.b.hi, .int .i64 s.half.lo, .int .i64 s.half.hi, .int .i64 s.peak.lo, .int .i64 s.peak.hi, .slice p n c] 35 #[.int .i64 t.a, .int .i64 t.b, .int .i64 t.half, .int .i64 t.peak] 94 #[.int .i64 k.x.lo, .int .i64 k.x.hi, .int .i64 k.y.lo, .int .i64 k.y.hi, .bool k.hail, .int .i64 k.size.lo, .int .i64 k.size.hi] 119 W ∧ BoxIs (w.heap.size + 3) #[.bool false] W)
    (fun pre W => (pre.any fun q => fitsP s t k q.1 q.2) = true ∧ Below w.heap.size w W ∧ W.cell? ⟨w.heap.size + 3, 0, none⟩ = some (.bool true))
    (fun pre W1 W2 h hn => ⟨h.1, h.2.1.near hn (by omega), h.2.2.near hn (by omega)⟩)
    (fun pre W1 W2 h hn => ⟨h.1, h.2.1.trans (hn.below h.2.1.size (by omega)), (hn.cell (World.block_lt_of_cell? _ _ h.2.2) (by show ¬ (w.heap.size + 3 = _ ∨ w.heap.size + 3 = _); omega)).trans h.2.2⟩)
    ⟨rfl, HB0.out.step hb5, HX0.out.below hb5⟩ ?round ?done ?stop
  case round =>
    rintro pre ⟨x, y⟩ rest W hall hsz ⟨hp, hB, hX⟩
    have hmem : (x, y) ∈ placesL k.x k.y := by rw [hall]; simp
    have hxy := mem_places.1 hmem
    simp only at hxy
    have x0 := HK.out.x0; have x9 := HK.out.x9; have y0 := HK.out.y0; have y9 := HK.out.y9
    have xa : 0 ≤ x := by omega
    have xb : x ≤ 11 := by omega
    have ya : 0 ≤ y := by omega
    have yb : y ≤ 11 := by omega
    have HALL := hid hall; have HP := hid hp; have HB := hid hB; have HX := hid hX; have HZ := hid hsz
    have HZ5 : Hid (W5.heap.size = w.heap.size + 5) := hz5
    clear hall hp hB hX hsz hmem hxy x0 x9 y0 y9 hz5 hz0 hb5 hR5
    simp only [encP]
    gi_wp2
    refine ⟨Near.refl _ _, fun W2 hn2 => ?_⟩
    have HB2 : Hid (Boxed3 w #[.int .i64 s.wide, .int .i64 s.high, .int .i64 s.fall, .int .i64 s.a.lo, .int .i64 s.a.hi, .int .i64 s.b.lo, .int .i64 s.b.hi, .int .i64 s.half.lo, .int .i64 s.half.hi, .int .i64 s.peak.lo, .int .i64 s.peak.hi, .slice p n c] 35 #[.int .i64 t.a, .int .i64 t.b, .int .i64 t.half, .int .i64 t.peak] 94 #[.int .i64 k.x.lo, .int .i64 k.x.hi, .int .i64 k.y.lo, .int .i64 k.y.hi, .bool k.hail, .int .i64 k.size.lo, .int .i64 k.size.hi] 119 W2) := HB.out.near hn2 (fun i hi => by have := HZ5.out; omega)
    have HX2 : Hid (BoxIs (w.heap.size + 3) #[.bool false] W2) := HX.out.near hn2 (by have := HZ5.out; omega)
    clear hn2 HB HX
    have e0 := (StoAt.of HB2.out.cell1).c0; have e1 := (StoAt.of HB2.out.cell1).c1; have e2 := (StoAt.of HB2.out.cell1).c2; have e3 := (StoAt.of HB2.out.cell1).c3; have e4 := (StoAt.of HB2.out.cell1).c4; have e5 := (StoAt.of HB2.out.cell1).c5; have e6 := (StoAt.of HB2.out.cell1).c6; have e7 := (StoAt.of HB2.out.cell1).c7; have e8 := (StoAt.of HB2.out.cell1).c8; have e9 := (StoAt.of HB2.out.cell1).c9; have e10 := (StoAt.of HB2.out.cell1).c10; have e11 := (StoAt.of HB2.out.cell1).c11
    have f0 := (TruAt.of HB2.out.cell2).c0; have f1 := (TruAt.of HB2.out.cell2).c1; have f2 := (TruAt.of HB2.out.cell2).c2; have f3 := (TruAt.of HB2.out.cell2).c3
    gi_wp2
    refine ⟨trivial, ?_⟩
    gi_at_call 75
    refine (CallsIn.inRound _ (callsIn_wide.2 (HS.out x y _ xa xb ya yb))).mono ?_
    rintro e W3 ⟨rfl, hb3⟩
    have HB3 := hid (HB2.out.step hb3)
    have HX3 := hid (HX2.out.below hb3)
    have HN3 := hid (Near.of_below (S := fun i => i = w.heap.size + 3) hb3 (fun i h1 h2 => by omega))
    clear hb3 HB2 HX2 e0 e1 e2 e3 e4 e5 e6 e7 e8 e9 e10 e11 f0 f1 f2 f3
    have hnn := size_nn s t x y
    have HPV := hid (show fitsP s t k x y = ((k.hail && (hitB s t x y && inB (sizeS s t x y) k.size.lo k.size.hi)) || (!k.hail && !hitB s t x y)) from rfl)
    rw [← size_pos] at HPV
    generalize sizeS s t x y = z at *
    have c4 := (CrdAt.of HB3.out.cell3).c4; have c5 := (CrdAt.of HB3.out.cell3).c5; have c6 := (CrdAt.of HB3.out.cell3).c6
    have g0 := (HX3.out.2 0 (.bool false) rfl).1; have g1 := (HX3.out.2 0 (.bool false) rfl).2
    have HYES : Hid (∀ V, Below W3.heap.size W3 V → fitsP s t k x y = true → Near (fun i => i = w.heap.size + 3) W2 (V.setCell ⟨w.heap.size + 3, 0, none⟩ (.bool true)) ∧ ((pre ++ [(x, y)]).any fun q => fitsP s t k q.1 q.2) = true ∧ Below w.heap.size w (V.setCell ⟨w.heap.size + 3, 0, none⟩ (.bool true)) ∧
        (V.setCell ⟨w.heap.size + 3, 0, none⟩ (.bool true)).cell? ⟨w.heap.size + 3, 0, none⟩ = some (.bool true)) := fun V hV hf =>
      ⟨(HN3.out.trans (Near.of_below hV (fun i h1 h2 => by omega))).setCell (p := ⟨w.heap.size + 3, 0, none⟩) (fun _ => rfl) _, by simp [hf], (HB3.out.step hV).below.setCell (p := ⟨w.heap.size + 3, 0, none⟩) (by show w.heap.size ≤ w.heap.size + 3; omega) _, World.cell?_setCell_same' _ _ _ (by rw [((HX3.out.below hV).2 0 (.bool false) rfl).1]; rfl)⟩
    have HNO : Hid (∀ V, Below W3.heap.size W3 V → fitsP s t k x y = false → Near (fun i => i = w.heap.size + 3) W2 V ∧ ((pre ++ [(x, y)]).all fun q => !fitsP s t k q.1 q.2) = true ∧ Boxed3 w #[.int .i64 s.wide, .int .i64 s.high, .int .i64 s.fall, .int .i64 s.a.lo, .int .i64 s.a.hi, .int .i64 s.b.lo, .int .i64 s.b.hi, .int .i64 s.half.lo, .int .i64 s.half.hi, .int .i64 s.peak.lo, .int .i64 s.peak.hi, .slice p n c] 35 #[.int .i64 t.a, .int .i64 t.b, .int .i64 t.half, .int .i64 t.peak] 94 #[.int .i64 k.x.lo, .int .i64 k.x.hi, .int .i64 k.y.lo, .int .i64 k.y.hi, .bool k.hail, .int .i64 k.size.lo, .int .i64 k.size.hi] 119 V ∧ BoxIs (w.heap.size + 3) #[.bool false] V) := fun V hV hf =>
      ⟨HN3.out.trans (Near.of_below hV (fun i h1 h2 => by omega)), by rw [List.all_append, HP.out]; simp [hf], HB3.out.step hV, HX3.out.below hV⟩
    cases hv : k.hail
    · rw [hv] at c4
      by_cases hz : 0 < z
      · have hz0 : (z == 0) = false := by simp; omega
        have HF := hid (HNO.out W3 (Below.refl _ _) (by rw [HPV.out, hv]; simp [hz]))
        clear HNO HYES
        gi_wp2
        refine ⟨trivial, ?_⟩
        gi_wp2
        exact HF.out
      · have hz0 : (z == 0) = true := by simp; omega
        have HF := hid (HYES.out W3 (Below.refl _ _) (by rw [HPV.out, hv]; simp; omega))
        clear HNO HYES
        gi_wp2
        refine ⟨trivial, ?_⟩
        gi_wp2
        exact HF.out
    · rw [hv] at c4
      by_cases hz : 0 < z
      · gi_wp2
        refine ⟨trivial, ?_⟩
        gi_at_call 97
        refine (CallsIn.inRound _ (callsIn_wide.2 (has_any k.size z _))).mono ?_
        rintro e W4 ⟨rfl, hb4⟩
        have c4 := (CrdAt.of (HB3.out.step hb4).cell3).c4
        rw [hv] at c4
        have g0 := ((HX3.out.below hb4).2 0 (.bool false) rfl).1; have g1 := ((HX3.out.below hb4).2 0 (.bool false) rfl).2
        cases hi : inB z k.size.lo k.size.hi
        · have HF := hid (HNO.out W4 hb4 (by rw [HPV.out, hv, hi]; simp))
          clear HNO HYES hb4
          gi_wp2
          exact HF.out
        · have HF := hid (HYES.out W4 hb4 (by rw [HPV.out, hv, hi]; simp [hz]))
          clear HNO HYES hb4
          gi_wp2
          exact HF.out
      · have HF := hid (HNO.out W3 (Below.refl _ _) (by rw [HPV.out, hv]; simp; omega))
        clear HNO HYES
        gi_wp2
        refine ⟨trivial, ?_⟩
        gi_wp2
        exact HF.out
  case done =>
    rintro W ⟨hp, hB, hX⟩ hK hsz
    have HP := hid hp; have HB := hid hB; have HX := hid hX
    have HZ5 : Hid (W5.heap.size = w.heap.size + 5) := hz5
    have g0 := (HX.out.2 0 (.bool false) rfl).1; have g1 := (HX.out.2 0 (.bool false) rfl).2
    clear hp hB hX hz5 hz0 hb5 hR5 hsz
    gi_wp2
    have hz5 := HZ5.out
    have hK' : (W.setCell ⟨w.heap.size + 3, 0, none⟩ (.bool false)).heap[W5.heap.size]? = some (.deferred (some [])) := (Below.heap_setCell _ _ _ _ (by show _ ≠ w.heap.size + 3; omega)).trans hK
    refine ⟨by simp, .inl ⟨_, _, rfl, run_takeDeferred hK', ?_⟩⟩
    have hX2 : BoxIs (w.heap.size + 3) #[.bool false] (W.setCell ⟨w.heap.size + 3, 0, none⟩ (.bool false)) := HX.out.put (j := 0) _
    have hc5 := ((hX2.near (Near.putObj W5.heap.size (.deferred none)) (by omega)).2 0 (.bool false) rfl).1
    refine ⟨.bool false, ?_, ?_, ?_⟩
    · simp [results, Try.f116, go_sem, hc5]
    · have : fitsB s t k = false := by
        rw [fitsB, List.any_eq_false]
        intro q hq
        have := List.all_eq_true.1 HP.out q hq
        simpa using this
      rw [this]
    · exact (HB.out.below.setCell (p := ⟨w.heap.size + 3, 0, none⟩) (by show w.heap.size ≤ w.heap.size + 3; omega) _).trans ((Near.putObj _ _).below (by simp [World.setCell]; exact HB.out.below.size) (fun i hi => by omega))
  case stop =>
    rintro pre rest W hall ⟨hm1, hbW, hcW⟩ hK hsz
    have HM1 := hid hm1
    have HAL := hid hall
    have HZ5 : Hid (W5.heap.size = w.heap.size + 5) := hz5
    have HCW := hid hcW
    clear hm1 hall hz5 hz0 hb5 hR5 hsz hcW
    gi_wp2
    have hz5 := HZ5.out
    refine ⟨by simp, .inl ⟨_, _, rfl, run_takeDeferred hK, ?_⟩⟩
    have hc5 : (W.putObj W5.heap.size (.deferred none)).cell? ⟨w.heap.size + 3, 0, none⟩ = some (.bool true) :=
      ((Near.putObj W5.heap.size (.deferred none)).cell (World.block_lt_of_cell? _ _ HCW.out) (by show ¬ (w.heap.size + 3 = _); omega)).trans HCW.out
    refine ⟨.bool true, ?_, ?_, ?_⟩
    · simp [results, Try.f116, go_sem, hc5]
    · have : fitsB s t k = true := by rw [fitsB, ← HAL.out, List.any_append, HM1.out]; rfl
      rw [this]
    · exact hbW.trans ((Near.putObj _ _).below hbW.size (fun i hi => by omega))
end Go.Proofs.Ytfnefkenheglhaa
