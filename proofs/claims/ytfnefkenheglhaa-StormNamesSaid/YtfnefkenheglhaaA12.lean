/- The reference: ranges that grow, worst cases, the best place. No condition. -/
import Derived.Test.YtfnefkenheglhaaP15
import Derived.Test.YtfnefkenheglhaaA11
namespace Go.Proofs.Ytfnefkenheglhaa
open Go.RowKit

def emptyR : Rng := ⟨1099511627776, -1099511627776⟩
set_option maxRecDepth 20000 in
set_option maxHeartbeats 1000000 in
theorem empty79_any (w : World) : Calls Try.prog 79 #[] w fun e w' => e = .returned (.agg #[.int .i64 emptyR.lo, .int .i64 emptyR.hi]) ∧ Below w.heap.size w w' := by
  have hx := BoxIs.start w #[.int .i64 0, .int .i64 0] 23
  have x0 := (hx.2 0 (.int .i64 0) rfl).1; have x1 := (hx.2 1 (.int .i64 0) rfl).1; have f0 := (hx.2 0 (.int .i64 0) rfl).2; have f1 := (hx.2 1 (.int .i64 0) rfl).2
  have HR := hid ((hx.put (j := 0) (.int .i64 1099511627776)).put (j := 1) (.int .i64 (-1099511627776)))
  clear hx
  go_enter Try.func79, Try.ntmps79
  go_wp2_with fail
  have y0 := (HR.out.2 0 (.int .i64 1099511627776) rfl).1; have y1 := (HR.out.2 1 (.int .i64 (-1099511627776)) rfl).1
  refine bodyPost_ret (v := .agg #[.int .i64 1099511627776, .int .i64 (-1099511627776)]) (by simp [results, Try.f79, go_sem]) rfl ?_
  first
    | exact ⟨rfl, Below.alloc (Below.refl _ _) (Nat.le_refl _) _⟩
    | exact ⟨rfl, ((Below.alloc (Below.refl _ _) (Nat.le_refl _) _).setCell (p := ⟨w.heap.size, 0, none⟩) (Nat.le_refl _) _).setCell (p := ⟨w.heap.size, 1, none⟩) (Nat.le_refl _) _⟩

set_option maxRecDepth 20000 in
set_option maxHeartbeats 1000000 in
theorem widerE_any (r : Rng) (n : Int) (w : World) : Calls Try.prog 80 #[.agg #[.int .i64 r.lo, .int .i64 r.hi], .int .i64 n] w fun e w' => e = .returned (.agg #[.int .i64 (widerR r n).lo, .int .i64 (widerR r n).hi]) ∧ Below w.heap.size w w' := by
  obtain ⟨W0, hW0⟩ : ∃ V, (w.alloc (.cells #[.int .i64 r.lo, .int .i64 r.hi] 23)).alloc (.cells #[.int .i64 0, .int .i64 0] 23) = V := ⟨_, rfl⟩
  have hb : Boxed1 w #[.int .i64 r.lo, .int .i64 r.hi] 23 W0 := by rw [← hW0]; exact (Boxed1.start _ _ _).alloc _
  have hx : BoxIs (w.heap.size + 1) #[.int .i64 0, .int .i64 0] W0 := by
    have h := BoxIs.start (w.alloc (.cells #[.int .i64 r.lo, .int .i64 r.hi] 23)) #[.int .i64 0, .int .i64 0] 23
    rw [World.size_alloc, hW0] at h; exact h
  have e0 := hb.cell 0 rfl; have e1 := hb.cell 1 rfl
  have x0 := (hx.2 0 (.int .i64 0) rfl).1; have x1 := (hx.2 1 (.int .i64 0) rfl).1; have f0 := (hx.2 0 (.int .i64 0) rfl).2; have f1 := (hx.2 1 (.int .i64 0) rfl).2
  have HB := hid hb.below
  have HX := hid hx
  clear hb hx
  by_cases h1 : n < r.lo
  · by_cases h2 : r.hi < n
    · skip
      have HW : Hid (widerR r n = ⟨n, n⟩) := by show _ = _; rw [widerR, minI, if_pos h1, if_pos h2]
      have HR := hid ((HX.out.put (j := 0) (.int .i64 n)).put (j := 1) (.int .i64 n))
      go_enter Try.func80, Try.ntmps80
      go_wp2_with fail
      have y0 := (HR.out.2 0 (.int .i64 n) rfl).1; have y1 := (HR.out.2 1 (.int .i64 n) rfl).1
      refine bodyPost_ret (v := .agg #[.int .i64 n, .int .i64 n]) (by simp [results, Try.f80, go_sem, y0, y1]) rfl ?_
      exact ⟨by rw [HW.out], (HB.out.setCell (p := ⟨w.heap.size + 1, 0, none⟩) (by show w.heap.size ≤ w.heap.size + 1; omega) _).setCell (p := ⟨w.heap.size + 1, 1, none⟩) (by show w.heap.size ≤ w.heap.size + 1; omega) _⟩
    · skip
      have HW : Hid (widerR r n = ⟨n, r.hi⟩) := by show _ = _; rw [widerR, minI, if_pos h1, if_neg h2]
      have HR := hid ((HX.out.put (j := 0) (.int .i64 n)).put (j := 1) (.int .i64 r.hi))
      go_enter Try.func80, Try.ntmps80
      go_wp2_with fail
      have y0 := (HR.out.2 0 (.int .i64 n) rfl).1; have y1 := (HR.out.2 1 (.int .i64 r.hi) rfl).1
      refine bodyPost_ret (v := .agg #[.int .i64 n, .int .i64 r.hi]) (by simp [results, Try.f80, go_sem, y0, y1]) rfl ?_
      exact ⟨by rw [HW.out], (HB.out.setCell (p := ⟨w.heap.size + 1, 0, none⟩) (by show w.heap.size ≤ w.heap.size + 1; omega) _).setCell (p := ⟨w.heap.size + 1, 1, none⟩) (by show w.heap.size ≤ w.heap.size + 1; omega) _⟩
  · by_cases h2 : r.hi < n
    · skip
      have HW : Hid (widerR r n = ⟨r.lo, n⟩) := by show _ = _; rw [widerR, minI, if_neg h1, if_pos h2]
      have HR := hid ((HX.out.put (j := 0) (.int .i64 r.lo)).put (j := 1) (.int .i64 n))
      go_enter Try.func80, Try.ntmps80
      go_wp2_with fail
      have y0 := (HR.out.2 0 (.int .i64 r.lo) rfl).1; have y1 := (HR.out.2 1 (.int .i64 n) rfl).1
      refine bodyPost_ret (v := .agg #[.int .i64 r.lo, .int .i64 n]) (by simp [results, Try.f80, go_sem, y0, y1]) rfl ?_
      exact ⟨by rw [HW.out], (HB.out.setCell (p := ⟨w.heap.size + 1, 0, none⟩) (by show w.heap.size ≤ w.heap.size + 1; omega) _).setCell (p := ⟨w.heap.size + 1, 1, none⟩) (by show w.heap.size ≤ w.heap.size + 1; omega) _⟩
    · skip
      have HW : Hid (widerR r n = ⟨r.lo, r.hi⟩) := by show _ = _; rw [widerR, minI, if_neg h1, if_neg h2]
      have HR := hid ((HX.out.put (j := 0) (.int .i64 r.lo)).put (j := 1) (.int .i64 r.hi))
      go_enter Try.func80, Try.ntmps80
      go_wp2_with fail
      have y0 := (HR.out.2 0 (.int .i64 r.lo) rfl).1; have y1 := (HR.out.2 1 (.int .i64 r.hi) rfl).1
      refine bodyPost_ret (v := .agg #[.int .i64 r.lo, .int .i64 r.hi]) (by simp [results, Try.f80, go_sem, y0, y1]) rfl ?_
      exact ⟨by rw [HW.out], (HB.out.setCell (p := ⟨w.heap.size + 1, 0, none⟩) (by show w.heap.size ≤ w.heap.size + 1; omega) _).setCell (p := ⟨w.heap.size + 1, 1, none⟩) (by show w.heap.size ≤ w.heap.size + 1; omega) _⟩

set_option maxRecDepth 40000 in
set_option maxHeartbeats 4000000 in
theorem worstR_any (s : Sto) (p : Option Addr) (n c : Nat) (q : Option Addr) (N d : Nat) (L : List Tru) (x y : Int) (w : World) (hr : RowsAt cellsT 4 w q N L) (hN : N ≤ 100000) (hs : SmallS s) (hT : ∀ t ∈ L, SmallT t) (hx : 0 ≤ x) (hx' : x ≤ 11) (hy : 0 ≤ y) (hy' : y ≤ 11) :
    Calls Try.prog 50 #[.agg #[.int .i64 s.wide, .int .i64 s.high, .int .i64 s.fall, .int .i64 s.a.lo, .int .i64 s.a.hi, .int .i64 s.b.lo, .int .i64 s.b.hi, .int .i64 s.half.lo, .int .i64 s.half.hi, .int .i64 s.peak.lo, .int .i64 s.peak.hi, .slice p n c], .slice q N d, .int .i64 x, .int .i64 y] w fun e w' => e = .returned (.int .i64 (worstT s L x y)) ∧ Below w.heap.size w w' := by
  have HR := hid hr; have HS := hid hs; have HTT := hid hT; have HXY := hid (show 0 ≤ x ∧ x ≤ 11 ∧ 0 ≤ y ∧ y ≤ 11 from ⟨hx, hx', hy, hy'⟩)
  have HLE := hid hr.1
  clear hr hs hT hx hx' hy hy'
  go_enter Try.func50, Try.ntmps50
  go_wp2_with fail
  go_loopw [9, 10] (fun u i wr => ∃ k : Nat, k ≤ N ∧ i = .int .i64 k ∧ u = .int .i64 (hitN s (L.take k) x y) ∧ Boxed1 w #[.int .i64 s.wide, .int .i64 s.high, .int .i64 s.fall, .int .i64 s.a.lo, .int .i64 s.a.hi, .int .i64 s.b.lo, .int .i64 s.b.hi, .int .i64 s.half.lo, .int .i64 s.half.hi, .int .i64 s.peak.lo, .int .i64 s.peak.hi, .slice p n c] 26 wr) (fun _ i _ => N - (intOf i).toNat)
  case atStart => exact ⟨0, by omega, rfl, by simp [hitN], Boxed1.start _ _ _⟩
  case round =>
    obtain ⟨k, hk, rfl, rfl, hb⟩ := hrel
    have HB := hid hb
    by_cases hlt : k < N
    · obtain ⟨t, ht, b1, o1, rfl, hlt1, hc⟩ := (HR.out.below hb.below).at hlt
      have HT := hid (HTT.out t (List.mem_of_getElem? ht))
      have HC : Hid (∀ V, Below wr.heap.size wr V → V.cell? ⟨b1, o1 + k * 4, none⟩ = some (.int .i64 t.a) ∧ V.cell? ⟨b1, o1 + k * 4 + 1, none⟩ = some (.int .i64 t.b) ∧ V.cell? ⟨b1, o1 + k * 4 + 2, none⟩ = some (.int .i64 t.half) ∧ V.cell? ⟨b1, o1 + k * 4 + 3, none⟩ = some (.int .i64 t.peak)) := fun V hV => by
        have kk : ∀ (a : Addr) (v : Value), wr.cell? a = some v → V.cell? a = some v := fun a v h => (hV.cell (World.block_lt_of_cell? _ _ h)).trans h
        exact ⟨kk _ _ (hc 0 _ rfl), kk _ _ (hc 1 _ rfl), kk _ _ (hc 2 _ rfl), kk _ _ (hc 3 _ rfl)⟩
      have HSN := hid (hitN_snoc (s := s) (x := x) (y := y) ht)
      have hle := hitN_le s (L.take k) x y
      rw [List.length_take_of_le (by have := HLE.out; omega)] at hle
      obtain ⟨C, hC⟩ : ∃ C, hitN s (L.take k) x y = C := ⟨_, rfl⟩
      rw [hC] at HSN hle
      rw [hC]
      have hC0 := hle.1
      have hC1 : C ≤ 100000 := by omega
      clear hC ht hc hb hle
      go_wp2_with fail
      refine wp_region_held_drew (S := fun V => Boxed1 w #[.int .i64 s.wide, .int .i64 s.high, .int .i64 s.fall, .int .i64 s.a.lo, .int .i64 s.a.hi, .int .i64 s.b.lo, .int .i64 s.b.hi, .int .i64 s.half.lo, .int .i64 s.half.hi, .int .i64 s.peak.lo, .int .i64 s.peak.hi, .slice p n c] 26 V ∧ Below wr.heap.size wr V) (by kernel_rfl) (⟨HB.out.drew, (Below.refl _ _).drew⟩) (fun hS => ?_)
      simp only [List.size_toArray, List.length_cons, List.length_nil, Nat.reduceAdd, Array.replicate_succ, Array.replicate_zero, List.push_toArray, List.nil_append, List.cons_append]
      refine tkH (i := 0) (v := ?_) (fun V hV => ?_) ?_
      rotate_left
      · have e0 := (StoAt.of hV.1.cell).c0; have e1 := (StoAt.of hV.1.cell).c1; have e2 := (StoAt.of hV.1.cell).c2; have e3 := (StoAt.of hV.1.cell).c3; have e4 := (StoAt.of hV.1.cell).c4; have e5 := (StoAt.of hV.1.cell).c5; have e6 := (StoAt.of hV.1.cell).c6; have e7 := (StoAt.of hV.1.cell).c7; have e8 := (StoAt.of hV.1.cell).c8; have e9 := (StoAt.of hV.1.cell).c9; have e10 := (StoAt.of hV.1.cell).c10; have e11 := (StoAt.of hV.1.cell).c11; go_simp
        try with_reducible rfl
      try simp only [Act.put, List.getElem_toArray, List.getElem_cons_zero, List.setIfInBounds_toArray, List.set_cons_zero, List.set_cons_succ]
      refine tkH (i := 1) (v := ?_) (fun V hV => ?_) ?_
      rotate_left
      · go_simp
        try with_reducible rfl
      try simp only [Act.put, List.getElem_toArray, List.getElem_cons_zero, List.getElem_cons_succ, List.setIfInBounds_toArray, List.set_cons_zero, List.set_cons_succ]
      refine tkH (i := 2) (v := ?_) (fun V hV => ?_) ?_
      rotate_left
      · go_simp
        try with_reducible rfl
      try simp only [Act.put, List.getElem_toArray, List.getElem_cons_zero, List.getElem_cons_succ, List.setIfInBounds_toArray, List.set_cons_zero, List.set_cons_succ]
      refine tkH (i := 3) (v := ?_) (fun V hV => ?_) ?_
      rotate_left
      · go_simp
        try with_reducible rfl
      try simp only [Act.put, List.getElem_toArray, List.getElem_cons_zero, List.getElem_cons_succ, List.setIfInBounds_toArray, List.set_cons_zero, List.set_cons_succ]
      refine tkH (i := 4) (v := ?_) (fun V hV => ?_) ?_
      rotate_left
      · have ⟨d0, d1, d2, d3⟩ := HC.out V hV.2; go_simp
        try with_reducible rfl
      try simp only [Act.put, List.getElem_toArray, List.getElem_cons_zero, List.getElem_cons_succ, List.setIfInBounds_toArray, List.set_cons_zero, List.set_cons_succ]
      refine tkH (i := 5) (v := ?_) (fun V hV => ?_) ?_
      rotate_left
      · go_simp
        try with_reducible rfl
      try simp only [Act.put, List.getElem_toArray, List.getElem_cons_zero, List.getElem_cons_succ, List.setIfInBounds_toArray, List.set_cons_zero, List.set_cons_succ]
      refine tkH (i := 6) (v := ?_) (fun V hV => ?_) ?_
      rotate_left
      · go_simp
        try with_reducible rfl
      try simp only [Act.put, List.getElem_toArray, List.getElem_cons_zero, List.getElem_cons_succ, List.setIfInBounds_toArray, List.set_cons_zero, List.set_cons_succ]
      refine wpAnyH_ready (rs := [7]) (by kernel_rfl) (by simp) ?_
      refine AllReadyH.cons (o := _) rfl (fun K hK => ?_) AllReadyH.nil
      go_simp
      (with_reducible refine (hit_any s p n c t x y _ HS.out HT.out HXY.out.1 HXY.out.2.1 HXY.out.2.2.1 HXY.out.2.2.2).mono ?_)
      rintro e w7 ⟨rfl, hb7⟩
      refine hK.out _ _ (⟨hS.1.step hb7, hS.2.trans (hb7.mono hS.2.size)⟩) (fun hS => ?_)
      clear hK K
      try simp only [List.setIfInBounds_toArray, List.set_cons_zero, List.set_cons_succ]
      refine wpAnyH_done (by kernel_rfl) ?_ _
      have HS7 := hid hS.1
      clear hS
      cases hh : hitB s t x y
      · have HSS : Hid (hitN s (L.take (k + 1)) x y = C) := by show _ = _; rw [HSN.out, hh]; simp
        clear hh
        go_wp2_with fail
        go_roundw
        case rel => exact ⟨k + 1, by omega, by go_num, by rw [HSS.out], HS7.out⟩
        case measure => simp [intOf]; omega
      · have HSS : Hid (hitN s (L.take (k + 1)) x y = C + 1) := by show _ = _; rw [HSN.out, hh]; simp
        clear hh
        go_wp2_with fail
        go_roundw
        case rel => exact ⟨k + 1, by omega, by go_num, by rw [HSS.out], HS7.out⟩
        case measure => simp [intOf]; omega
    · have hkN : k = N := by omega
      subst hkN
      have hL9 : L.take k = L := List.take_of_length_le (by have := HLE.out; omega)
      rw [hL9]
      have hle := hitN_le s L x y
      have HWT := hid (show worstT s L x y = if hitN s L x y < (L.length : Int) - hitN s L x y then (L.length : Int) - hitN s L x y else hitN s L x y from rfl)
      rw [← HLE.out] at HWT hle
      obtain ⟨C, hC⟩ : ∃ C, hitN s L x y = C := ⟨_, rfl⟩
      rw [hC] at HWT hle ⊢
      have hC0 := hle.1
      have hC1 := hle.2
      clear hL9 hC hb hle
      by_cases hmx : C < (k : Int) - C
      · have HW : Hid (worstT s L x y = (k : Int) - C) := by show _ = _; rw [HWT.out, if_pos hmx]
        go_wp2_with fail
        go_ret
        exact ⟨by rw [HW.out]; rfl, HB.out.below⟩
      · have HW : Hid (worstT s L x y = C) := by show _ = _; rw [HWT.out, if_neg hmx]
        go_wp2_with fail
        go_ret
        exact ⟨by rw [HW.out]; rfl, HB.out.below⟩

/-- The places of the first columns, and some of the next. -/
def firstP (s : Sto) (k j : Nat) : List (Int × Int) := (((⟨0, s.wide - 1⟩ : Rng).nums.take k).flatMap (rowL ⟨0, s.high - 1⟩) ++ ((⟨0, s.high - 1⟩ : Rng).nums.take j).map (fun b => (((k : Nat) : Int), b)))
theorem firstP_next (s : Sto) (k j : Nat) (hj : (j : Int) < s.high) : firstP s k (j + 1) = firstP s k j ++ [((k : Int), (j : Int))] := by
  have h := map_more (⟨0, s.high - 1⟩ : Rng) (fun b => ((k : Int), b)) (i := j) (by simp [Rng.cnt]; omega)
  rw [firstP, h, ← List.append_assoc]
  simp [firstP]
theorem firstP_row (s : Sto) (k j : Nat) (hk : (k : Int) < s.wide) (hj : s.high ≤ j) : firstP s (k + 1) 0 = firstP s k j := by
  have h := flat_more (⟨0, s.wide - 1⟩ : Rng) (rowL ⟨0, s.high - 1⟩) (i := k) (by simp [Rng.cnt]; omega)
  have h2 := take_all (⟨0, s.high - 1⟩ : Rng) (i := j) (by simp [Rng.cnt]; omega)
  rw [firstP, h, firstP, h2]
  simp [rowL]
theorem firstP_all (s : Sto) (k : Nat) (hk : s.wide ≤ k) : firstP s k 0 = placesL ⟨0, s.wide - 1⟩ ⟨0, s.high - 1⟩ := by
  have h2 := take_all (⟨0, s.wide - 1⟩ : Rng) (i := k) (by simp [Rng.cnt]; omega)
  rw [firstP, h2]
  simp [placesL]; rfl

set_option maxRecDepth 40000 in
set_option maxHeartbeats 4000000 in
theorem bestR_any (s : Sto) (p : Option Addr) (n c : Nat) (q : Option Addr) (N d : Nat) (L : List Tru) (w : World) (hr : RowsAt cellsT 4 w q N L) (hN : N ≤ 100000) (ok : OkS s) (hT : ∀ t ∈ L, SmallT t) :
    Calls Try.prog 27 #[.agg #[.int .i64 s.wide, .int .i64 s.high, .int .i64 s.fall, .int .i64 s.a.lo, .int .i64 s.a.hi, .int .i64 s.b.lo, .int .i64 s.b.hi, .int .i64 s.half.lo, .int .i64 s.half.hi, .int .i64 s.peak.lo, .int .i64 s.peak.hi, .slice p n c], .slice q N d] w fun e w' => e = .returned (.tuple #[.int .i64 (bestT s L).1, .int .i64 (bestT s L).2.1, .int .i64 (bestT s L).2.2]) ∧ Below w.heap.size w w' := by
  have HWO := hid (fun W (hb : Below w.heap.size w W) (x y : Int) (h1 : 0 ≤ x) (h2 : x ≤ 11) (h3 : 0 ≤ y) (h4 : y ≤ 11) => worstR_any s p n c q N d L x y W (hr.below hb) hN ok.small hT h1 h2 h3 h4)
  have hLN := hr.1
  have q1 := ok.w2; have q2 := ok.w12; have q3 := ok.h1; have q4 := ok.h12
  have HBT := hid (show bestT s L = (placesL ⟨0, s.wide - 1⟩ ⟨0, s.high - 1⟩).foldl (bestStep s L) (0, 0, (L.length : Int) + 1) from rfl)
  rw [← hLN] at HBT
  have HBS := hid (best_snoc s L)
  clear hr hT ok hLN
  go_enter Try.func27, Try.ntmps27
  go_wp2_with fail
  go_loopw [7, 8, 9, 10] (fun a b m i wr => ∃ k : Nat, (k : Int) ≤ s.wide ∧ i = .int .i64 k ∧ (∃ x y v, (firstP s k 0).foldl (bestStep s L) (0, 0, (N : Int) + 1) = (x, y, v) ∧ a = .int .i64 x ∧ b = .int .i64 y ∧ m = .int .i64 v) ∧ Boxed1 w #[.int .i64 s.wide, .int .i64 s.high, .int .i64 s.fall, .int .i64 s.a.lo, .int .i64 s.a.hi, .int .i64 s.b.lo, .int .i64 s.b.hi, .int .i64 s.half.lo, .int .i64 s.half.hi, .int .i64 s.peak.lo, .int .i64 s.peak.hi, .slice p n c] 26 wr) (fun _ _ _ i _ => s.wide.toNat - (intOf i).toNat)
  case atStart => exact ⟨0, by omega, rfl, ⟨0, 0, (N : Int) + 1, rfl, rfl, rfl, rfl⟩, Boxed1.start _ _ _⟩
  case round =>
    obtain ⟨k, hk, rfl, ⟨x, y, v, hst, rfl, rfl, rfl⟩, hb⟩ := hrel
    have e0 := (StoAt.of hb.cell).c0
    have HB := hid hb; have HST := hid hst
    clear hb hst
    by_cases hlt : (k : Int) < s.wide
    · clear hk
      go_wp2_with fail
      obtain ⟨wo, rfl⟩ : ∃ wo : World, wo = wr := ⟨_, rfl⟩
      go_loopw [7, 8, 9, 11] (fun a b m i wr => ∃ j : Nat, (j : Int) ≤ s.high ∧ i = .int .i64 j ∧ (∃ x y v, (firstP s k j).foldl (bestStep s L) (0, 0, (N : Int) + 1) = (x, y, v) ∧ a = .int .i64 x ∧ b = .int .i64 y ∧ m = .int .i64 v) ∧ Boxed1 w #[.int .i64 s.wide, .int .i64 s.high, .int .i64 s.fall, .int .i64 s.a.lo, .int .i64 s.a.hi, .int .i64 s.b.lo, .int .i64 s.b.hi, .int .i64 s.half.lo, .int .i64 s.half.hi, .int .i64 s.peak.lo, .int .i64 s.peak.hi, .slice p n c] 26 wr) (fun _ _ _ i _ => s.high.toNat - (intOf i).toNat)
      case atStart => exact ⟨0, by omega, rfl, ⟨x, y, v, HST.out, rfl, rfl, rfl⟩, HB.out⟩
      case round =>
        obtain ⟨j, hj, rfl, ⟨x', y', v', hst, rfl, rfl, rfl⟩, hb⟩ := hrel
        clear e0
        have HB2 := hid hb
        by_cases hlj : (j : Int) < s.high
        · have HN2 := hid (firstP_next s k j hlj)
          have HS2 := hid (HBS.out (firstP s k j) ((k : Int), (j : Int)) (0, 0, (N : Int) + 1))
          rw [hst, ← HN2.out] at HS2
          have HBD := hid (show bestStep s L (x', y', v') ((k : Int), (j : Int)) = if worstT s L k j < v' then ((k : Int), (j : Int), worstT s L k j) else (x', y', v') from rfl)
          have e0 := (StoAt.of hb.cell).c0
          have e1 := (StoAt.of hb.cell).c1
          have e2 := (StoAt.of hb.cell).c2
          have e3 := (StoAt.of hb.cell).c3
          have e4 := (StoAt.of hb.cell).c4
          have e5 := (StoAt.of hb.cell).c5
          have e6 := (StoAt.of hb.cell).c6
          have e7 := (StoAt.of hb.cell).c7
          have e8 := (StoAt.of hb.cell).c8
          have e9 := (StoAt.of hb.cell).c9
          have e10 := (StoAt.of hb.cell).c10
          have e11 := (StoAt.of hb.cell).c11
          clear hst hb
          go_wp2_with fail
          (with_reducible refine (HWO.out _ HB2.out.below k j (by omega) (by omega) (by omega) (by omega)).mono ?_)
          rintro e w5 ⟨rfl, hb5⟩
          have HB5 := hid (HB2.out.step hb5)
          clear hb5 e0 e1 e2 e3 e4 e5 e6 e7 e8 e9 e10 e11
          obtain ⟨z, hz⟩ : ∃ z, worstT s L k j = z := ⟨_, rfl⟩
          rw [hz] at HBD ⊢
          clear hz
          by_cases hzv : z < v'
          · have HE : Hid ((firstP s k (j + 1)).foldl (bestStep s L) (0, 0, (N : Int) + 1) = ((k : Int), (j : Int), z)) := by show _ = _; rw [HS2.out, HBD.out, if_pos hzv]
            go_wp2_with fail
            go_roundw
            case rel => exact ⟨j + 1, by omega, by go_num, ⟨k, j, z, HE.out, rfl, rfl, rfl⟩, HB5.out⟩
            case measure => simp [intOf]; omega
          · have HE : Hid ((firstP s k (j + 1)).foldl (bestStep s L) (0, 0, (N : Int) + 1) = (x', y', v')) := by show _ = _; rw [HS2.out, HBD.out, if_neg hzv]
            go_wp2_with fail
            go_roundw
            case rel => exact ⟨j + 1, by omega, by go_num, ⟨x', y', v', HE.out, rfl, rfl, rfl⟩, HB5.out⟩
            case measure => simp [intOf]; omega
        · have e1 := (StoAt.of hb.cell).c1
          have HE : Hid ((firstP s (k + 1) 0).foldl (bestStep s L) (0, 0, (N : Int) + 1) = (x', y', v')) := by show _ = _; rw [firstP_row s k j hlt (by omega), hst]
          clear hst hb
          go_wp2_with fail
          go_roundw
          case rel => exact ⟨k + 1, by omega, by go_num, ⟨x', y', v', HE.out, rfl, rfl, rfl⟩, HB2.out⟩
          case measure => simp [intOf]; omega
    · have HE : Hid (bestT s L = (x, y, v)) := by show _ = _; rw [HBT.out, ← firstP_all s k (by omega), HST.out]
      go_wp2_with fail
      go_ret3
      exact ⟨by rw [HE.out]; rfl, HB.out.below⟩

def sizesR (s : Sto) (x y : Int) (l : List Tru) : Rng := l.foldl (fun r t => widerR r (sizeS s t x y)) emptyR
theorem sizesR_snoc {s : Sto} {x y : Int} {l : List Tru} {k : Nat} {t : Tru} (h : l[k]? = some t) : sizesR s x y (l.take (k + 1)) = widerR (sizesR s x y (l.take k)) (sizeS s t x y) := by
  unfold sizesR
  rw [List.take_add_one, h, List.foldl_append]
  rfl

set_option maxRecDepth 40000 in
set_option maxHeartbeats 4000000 in
theorem sizesR_any (s : Sto) (p : Option Addr) (n c : Nat) (q : Option Addr) (N d : Nat) (L : List Tru) (x y : Int) (w : World) (hr : RowsAt cellsT 4 w q N L) (hN : N ≤ 100000) (hs : SmallS s) (hT : ∀ t ∈ L, SmallT t) (hx : 0 ≤ x) (hx' : x ≤ 11) (hy : 0 ≤ y) (hy' : y ≤ 11) :
    Calls Try.prog 26 #[.agg #[.int .i64 s.wide, .int .i64 s.high, .int .i64 s.fall, .int .i64 s.a.lo, .int .i64 s.a.hi, .int .i64 s.b.lo, .int .i64 s.b.hi, .int .i64 s.half.lo, .int .i64 s.half.hi, .int .i64 s.peak.lo, .int .i64 s.peak.hi, .slice p n c], .slice q N d, .int .i64 x, .int .i64 y] w fun e w' => e = .returned (.agg #[.int .i64 (sizesR s x y L).lo, .int .i64 (sizesR s x y L).hi]) ∧ Below w.heap.size w w' := by
  have HR := hid hr; have HS := hid hs; have HTT := hid hT; have HXY := hid (show 0 ≤ x ∧ x ≤ 11 ∧ 0 ≤ y ∧ y ≤ 11 from ⟨hx, hx', hy, hy'⟩)
  have HLE := hid hr.1
  clear hr hs hT hx hx' hy hy'
  obtain ⟨W0, hW0⟩ : ∃ V, (w.alloc (.cells #[.int .i64 s.wide, .int .i64 s.high, .int .i64 s.fall, .int .i64 s.a.lo, .int .i64 s.a.hi, .int .i64 s.b.lo, .int .i64 s.b.hi, .int .i64 s.half.lo, .int .i64 s.half.hi, .int .i64 s.peak.lo, .int .i64 s.peak.hi, .slice p n c] 26)).alloc (.cells #[.int .i64 0, .int .i64 0] 23) = V := ⟨_, rfl⟩
  have HB0 : Hid (Boxed1 w #[.int .i64 s.wide, .int .i64 s.high, .int .i64 s.fall, .int .i64 s.a.lo, .int .i64 s.a.hi, .int .i64 s.b.lo, .int .i64 s.b.hi, .int .i64 s.half.lo, .int .i64 s.half.hi, .int .i64 s.peak.lo, .int .i64 s.peak.hi, .slice p n c] 26 W0) := by show Boxed1 _ _ _ _; rw [← hW0]; exact (Boxed1.start _ _ _).alloc _
  have HO0 : Hid (BoxIs (w.heap.size + 1) #[.int .i64 0, .int .i64 0] W0) := by
    show BoxIs _ _ _
    have h := BoxIs.start (w.alloc (.cells #[.int .i64 s.wide, .int .i64 s.high, .int .i64 s.fall, .int .i64 s.a.lo, .int .i64 s.a.hi, .int .i64 s.b.lo, .int .i64 s.b.hi, .int .i64 s.half.lo, .int .i64 s.half.hi, .int .i64 s.peak.lo, .int .i64 s.peak.hi, .slice p n c] 26)) #[.int .i64 0, .int .i64 0] 23
    rw [World.size_alloc, hW0] at h; exact h
  go_enter Try.func26, Try.ntmps26
  go_wp2_with fail
  refine (empty79_any _).mono ?_
  rintro e w2 ⟨rfl, hb⟩
  have HB2 := hid (HB0.out.step hb)
  have HO2 := hid (HO0.out.below hb)
  have HZ1 : Hid (w.heap.size + 1 ≤ w2.heap.size) := hid HB2.out.size
  have HZ2 : Hid (w.heap.size + 1 < w2.heap.size) := hid HO2.out.1
  clear hb hW0
  obtain ⟨W3, hW3⟩ : ∃ V, w2.alloc (.cells #[.int .i64 emptyR.lo, .int .i64 emptyR.hi] 23) = V := ⟨_, rfl⟩
  have HX3 : Hid (BoxIs (w2.heap.size) #[.int .i64 emptyR.lo, .int .i64 emptyR.hi] W3) := by show BoxIs _ _ _; rw [← hW3]; exact BoxIs.start _ _ _
  have HB3 : Hid (Boxed1 w #[.int .i64 s.wide, .int .i64 s.high, .int .i64 s.fall, .int .i64 s.a.lo, .int .i64 s.a.hi, .int .i64 s.b.lo, .int .i64 s.b.hi, .int .i64 s.half.lo, .int .i64 s.half.hi, .int .i64 s.peak.lo, .int .i64 s.peak.hi, .slice p n c] 26 W3) := by show Boxed1 _ _ _ _; rw [← hW3]; exact HB2.out.alloc _
  have HQ3 : Hid (Below w2.heap.size w2 W3) := by show Below _ _ _; rw [← hW3]; exact (Below.refl _ _).alloc (Nat.le_refl _) _
  go_wp2_with fail
  clear hW3
  go_loopw [10] (fun i wr => ∃ k : Nat, k ≤ N ∧ i = .int .i64 k ∧ BoxIs (w2.heap.size) #[.int .i64 (sizesR s x y (L.take k)).lo, .int .i64 (sizesR s x y (L.take k)).hi] wr ∧ Boxed1 w #[.int .i64 s.wide, .int .i64 s.high, .int .i64 s.fall, .int .i64 s.a.lo, .int .i64 s.a.hi, .int .i64 s.b.lo, .int .i64 s.b.hi, .int .i64 s.half.lo, .int .i64 s.half.hi, .int .i64 s.peak.lo, .int .i64 s.peak.hi, .slice p n c] 26 wr ∧ Below w2.heap.size w2 wr) (fun i _ => N - (intOf i).toNat)
  case atStart => exact ⟨0, by omega, rfl, HX3.out, HB3.out, HQ3.out⟩
  case round =>
    obtain ⟨k, hk, rfl, hx, hb, hq⟩ := hrel
    have HB := hid hb
    have HQr := hid hq
    by_cases hlt : k < N
    · obtain ⟨t, ht, b1, o1, rfl, hlt1, hc⟩ := (HR.out.below hb.below).at hlt
      have HT := hid (HTT.out t (List.mem_of_getElem? ht))
      have hb1 : b1 < w2.heap.size := by
        obtain ⟨_, _, b2, o2, e2, hlt2, _⟩ := HR.out.at hlt
        cases e2; have := HZ1.out; omega
      have HC : Hid (∀ V, Below w2.heap.size wr V → V.cell? ⟨b1, o1 + k * 4, none⟩ = some (.int .i64 t.a) ∧ V.cell? ⟨b1, o1 + k * 4 + 1, none⟩ = some (.int .i64 t.b) ∧ V.cell? ⟨b1, o1 + k * 4 + 2, none⟩ = some (.int .i64 t.half) ∧ V.cell? ⟨b1, o1 + k * 4 + 3, none⟩ = some (.int .i64 t.peak)) := fun V hV => by
        have kk : ∀ (o : Nat) (v : Value), wr.cell? ⟨b1, o, none⟩ = some v → V.cell? ⟨b1, o, none⟩ = some v := fun o v h => (hV.cell (p := ⟨b1, o, none⟩) hb1).trans h
        exact ⟨kk _ _ (hc 0 _ rfl), kk _ _ (hc 1 _ rfl), kk _ _ (hc 2 _ rfl), kk _ _ (hc 3 _ rfl)⟩
      have HSN := hid (sizesR_snoc (s := s) (x := x) (y := y) ht)
      have HZW : Hid (w2.heap.size < wr.heap.size) := hid hx.1
      obtain ⟨r, hr⟩ : ∃ r, sizesR s x y (L.take k) = r := ⟨_, rfl⟩
      rw [hr] at hx HSN
      have HX0 := hid hx
      clear hr ht hc hb hx hq
      go_wp2_with fail
      refine wp_region_listed (S := fun l V => (Boxed1 w #[.int .i64 s.wide, .int .i64 s.high, .int .i64 s.fall, .int .i64 s.a.lo, .int .i64 s.a.hi, .int .i64 s.b.lo, .int .i64 s.b.hi, .int .i64 s.half.lo, .int .i64 s.half.hi, .int .i64 s.peak.lo, .int .i64 s.peak.hi, .slice p n c] 26 V ∧ Below w2.heap.size wr V ∧ w2.heap.size < V.heap.size) ∧ (l.getD 10 true = false → BoxIs (w2.heap.size) #[.int .i64 r.lo, .int .i64 r.hi] V)) (by kernel_rfl) (⟨⟨HB.out.drew, (Below.refl _ _).drew, HX0.out.1⟩, fun _ => HX0.out.below (Below.refl _ _).drew⟩) (fun hS => ?_)
      simp only [List.size_toArray, List.length_cons, List.length_nil, Nat.reduceAdd, Array.replicate_succ, Array.replicate_zero, List.push_toArray, List.nil_append, List.cons_append]
      refine anyL_take [10] (i := 0) (v := ?_) rfl (by kernel_rfl) (by kernel_rfl) (by kernel_rfl) (fun _ _ _ h => h) (by kernel_rfl) (by kernel_rfl) (fun _ _ => and_congr Iff.rfl (imp_congr (getD_set_iff (by decide)) Iff.rfl)) (Or.inl ⟨by rfl, fun V hV => ?_⟩) (by assumption) ?_
      rotate_left
      · obtain ⟨l, hn, hV⟩ := hV; have hX := hV.2 (hn 10 (by simp)); have e0 := (hX.2 0 (.int .i64 r.lo) rfl).1; have e1 := (hX.2 1 (.int .i64 r.hi) rfl).1; go_simp
        try with_reducible rfl
      try simp only [Act.put, List.getElem_toArray, List.getElem_cons_zero, List.setIfInBounds_toArray, List.set_cons_zero, List.set_cons_succ]
      refine anyL_take [] (i := 1) (v := ?_) rfl (by kernel_rfl) (by kernel_rfl) (by kernel_rfl) (fun _ _ _ h => h) (by kernel_rfl) (by kernel_rfl) (fun _ _ => and_congr Iff.rfl (imp_congr (getD_set_iff (by decide)) Iff.rfl)) (Or.inl ⟨by rfl, fun V hV => ?_⟩) (by assumption) ?_
      rotate_left
      · obtain ⟨l, hn, hV⟩ := hV; have e0 := (StoAt.of hV.1.1.cell).c0; have e1 := (StoAt.of hV.1.1.cell).c1; have e2 := (StoAt.of hV.1.1.cell).c2; have e3 := (StoAt.of hV.1.1.cell).c3; have e4 := (StoAt.of hV.1.1.cell).c4; have e5 := (StoAt.of hV.1.1.cell).c5; have e6 := (StoAt.of hV.1.1.cell).c6; have e7 := (StoAt.of hV.1.1.cell).c7; have e8 := (StoAt.of hV.1.1.cell).c8; have e9 := (StoAt.of hV.1.1.cell).c9; have e10 := (StoAt.of hV.1.1.cell).c10; have e11 := (StoAt.of hV.1.1.cell).c11; go_simp
        try with_reducible rfl
      try simp only [Act.put, List.getElem_toArray, List.getElem_cons_zero, List.getElem_cons_succ, List.setIfInBounds_toArray, List.set_cons_zero, List.set_cons_succ]
      refine anyL_take [] (i := 2) (v := ?_) rfl (by kernel_rfl) (by kernel_rfl) (by kernel_rfl) (fun _ _ _ h => h) (by kernel_rfl) (by kernel_rfl) (fun _ _ => and_congr Iff.rfl (imp_congr (getD_set_iff (by decide)) Iff.rfl)) (Or.inl ⟨by rfl, fun V hV => ?_⟩) (by assumption) ?_
      rotate_left
      · go_simp
        try with_reducible rfl
      try simp only [Act.put, List.getElem_toArray, List.getElem_cons_zero, List.getElem_cons_succ, List.setIfInBounds_toArray, List.set_cons_zero, List.set_cons_succ]
      refine anyL_take [] (i := 3) (v := ?_) rfl (by kernel_rfl) (by kernel_rfl) (by kernel_rfl) (fun _ _ _ h => h) (by kernel_rfl) (by kernel_rfl) (fun _ _ => and_congr Iff.rfl (imp_congr (getD_set_iff (by decide)) Iff.rfl)) (Or.inl ⟨by rfl, fun V hV => ?_⟩) (by assumption) ?_
      rotate_left
      · go_simp
        try with_reducible rfl
      try simp only [Act.put, List.getElem_toArray, List.getElem_cons_zero, List.getElem_cons_succ, List.setIfInBounds_toArray, List.set_cons_zero, List.set_cons_succ]
      refine anyL_take [] (i := 4) (v := ?_) rfl (by kernel_rfl) (by kernel_rfl) (by kernel_rfl) (fun _ _ _ h => h) (by kernel_rfl) (by kernel_rfl) (fun _ _ => and_congr Iff.rfl (imp_congr (getD_set_iff (by decide)) Iff.rfl)) (Or.inl ⟨by rfl, fun V hV => ?_⟩) (by assumption) ?_
      rotate_left
      · go_simp
        try with_reducible rfl
      try simp only [Act.put, List.getElem_toArray, List.getElem_cons_zero, List.getElem_cons_succ, List.setIfInBounds_toArray, List.set_cons_zero, List.set_cons_succ]
      refine anyL_take [] (i := 5) (v := ?_) rfl (by kernel_rfl) (by kernel_rfl) (by kernel_rfl) (fun _ _ _ h => h) (by kernel_rfl) (by kernel_rfl) (fun _ _ => and_congr Iff.rfl (imp_congr (getD_set_iff (by decide)) Iff.rfl)) (Or.inl ⟨by rfl, fun V hV => ?_⟩) (by assumption) ?_
      rotate_left
      · obtain ⟨l, hn, hV⟩ := hV; have ⟨d0, d1, d2, d3⟩ := HC.out V hV.1.2.1; go_simp
        try with_reducible rfl
      try simp only [Act.put, List.getElem_toArray, List.getElem_cons_zero, List.getElem_cons_succ, List.setIfInBounds_toArray, List.set_cons_zero, List.set_cons_succ]
      refine anyL_take [] (i := 6) (v := ?_) rfl (by kernel_rfl) (by kernel_rfl) (by kernel_rfl) (fun _ _ _ h => h) (by kernel_rfl) (by kernel_rfl) (fun _ _ => and_congr Iff.rfl (imp_congr (getD_set_iff (by decide)) Iff.rfl)) (Or.inl ⟨by rfl, fun V hV => ?_⟩) (by assumption) ?_
      rotate_left
      · go_simp
        try with_reducible rfl
      try simp only [Act.put, List.getElem_toArray, List.getElem_cons_zero, List.getElem_cons_succ, List.setIfInBounds_toArray, List.set_cons_zero, List.set_cons_succ]
      refine anyL_take [] (i := 7) (v := ?_) rfl (by kernel_rfl) (by kernel_rfl) (by kernel_rfl) (fun _ _ _ h => h) (by kernel_rfl) (by kernel_rfl) (fun _ _ => and_congr Iff.rfl (imp_congr (getD_set_iff (by decide)) Iff.rfl)) (Or.inl ⟨by rfl, fun V hV => ?_⟩) (by assumption) ?_
      rotate_left
      · go_simp
        try with_reducible rfl
      try simp only [Act.put, List.getElem_toArray, List.getElem_cons_zero, List.getElem_cons_succ, List.setIfInBounds_toArray, List.set_cons_zero, List.set_cons_succ]
      refine anyL_one (i := 8) (o := _) (by kernel_rfl) rfl (fun K hK => ?_)
      go_simp
      (with_reducible refine (sizeR_any s p n c t x y _ HS.out HT.out HXY.out.1 HXY.out.2.1 HXY.out.2.2.1 HXY.out.2.2.2).mono ?_)
      rintro e v7 ⟨rfl, hb7⟩
      have HX7 := hid ((HX0.out.below (Below.refl _ _).drew).below hb7)
      have HS7 := hid (hS.1.1.step hb7); have HQ7 := hid (hS.1.2.1.trans (hb7.mono (by have := hS.1.2.1.size; omega))); have HZ7 := hid (HX7.out.1)
      clear hS hb7
      refine hK.out _ _ (⟨⟨HS7.out, HQ7.out, HZ7.out⟩, fun _ => HX7.out⟩) (fun hS => ?_)
      clear hK K
      try simp only [List.setIfInBounds_toArray, List.set_cons_zero, List.set_cons_succ]
      refine anyL_one (i := 9) (o := _) (by kernel_rfl) rfl (fun K hK => ?_)
      go_simp
      (with_reducible refine (widerE_any r (sizeS s t x y) _).mono ?_)
      rintro e v8 ⟨rfl, hb8⟩
      have HX8 := hid (HX7.out.below hb8)
      have HS8 := hid (hS.1.1.step hb8); have HQ8 := hid (hS.1.2.1.trans (hb8.mono (by have := hS.1.2.1.size; have := HX7.out.1; have := HZW.out; omega)))
      clear hS hb8
      refine hK.out _ _ (⟨⟨HS8.out, HQ8.out, HX8.out.1⟩, fun _ => HX8.out⟩) (fun hS => ?_)
      clear hK K
      try simp only [List.setIfInBounds_toArray, List.set_cons_zero, List.set_cons_succ]
      refine anyL_one (i := 10) (o := _) (by kernel_rfl) rfl (fun K hK => ?_)
      have k0 := (HX8.out.2 0 (.int .i64 r.lo) rfl).1; have k1 := (HX8.out.2 1 (.int .i64 r.hi) rfl).1; have f0 := (HX8.out.2 0 (.int .i64 r.lo) rfl).2; have f1 := (HX8.out.2 1 (.int .i64 r.hi) rfl).2
      have HX9 : Hid (BoxIs (w2.heap.size) #[.int .i64 (widerR r (sizeS s t x y)).lo, .int .i64 (widerR r (sizeS s t x y)).hi] ((v8.setCell ⟨w2.heap.size, 0, none⟩ (.int .i64 (widerR r (sizeS s t x y)).lo)).setCell ⟨w2.heap.size, 1, none⟩ (.int .i64 (widerR r (sizeS s t x y)).hi))) := hid ((HX8.out.put (j := 0) (.int .i64 (widerR r (sizeS s t x y)).lo)).put (j := 1) (.int .i64 (widerR r (sizeS s t x y)).hi))
      have HS9 : Hid (Boxed1 w #[.int .i64 s.wide, .int .i64 s.high, .int .i64 s.fall, .int .i64 s.a.lo, .int .i64 s.a.hi, .int .i64 s.b.lo, .int .i64 s.b.hi, .int .i64 s.half.lo, .int .i64 s.half.hi, .int .i64 s.peak.lo, .int .i64 s.peak.hi, .slice p n c] 26 ((v8.setCell ⟨w2.heap.size, 0, none⟩ (.int .i64 (widerR r (sizeS s t x y)).lo)).setCell ⟨w2.heap.size, 1, none⟩ (.int .i64 (widerR r (sizeS s t x y)).hi))) := hid ((hS.1.1.step' (Below.setCell (Below.refl _ _) (p := ⟨w2.heap.size, 0, none⟩) HZ1.out _)).step' (Below.setCell (Below.refl _ _) (p := ⟨w2.heap.size, 1, none⟩) HZ1.out _))
      have HQ9 : Hid (Below w2.heap.size wr ((v8.setCell ⟨w2.heap.size, 0, none⟩ (.int .i64 (widerR r (sizeS s t x y)).lo)).setCell ⟨w2.heap.size, 1, none⟩ (.int .i64 (widerR r (sizeS s t x y)).hi))) := hid ((hS.1.2.1.setCell (p := ⟨w2.heap.size, 0, none⟩) (Nat.le_refl _) _).setCell (p := ⟨w2.heap.size, 1, none⟩) (Nat.le_refl _) _)
      clear hS
      go_simp
      clear k0 k1 f0 f1
      generalize ((v8.setCell ⟨w2.heap.size, 0, none⟩ (.int .i64 (widerR r (sizeS s t x y)).lo)).setCell ⟨w2.heap.size, 1, none⟩ (.int .i64 (widerR r (sizeS s t x y)).hi)) = V9 at HX9 HS9 HQ9 ⊢
      refine hK.out _ _ (⟨⟨HS9.out, HQ9.out, HX9.out.1⟩, fun h => absurd h (by decide)⟩) (fun hS => ?_)
      clear hK K
      try simp only [List.setIfInBounds_toArray, List.set_cons_zero, List.set_cons_succ]
      refine anyL_done (by kernel_rfl) ?_ _
      clear hS
      go_wp2_with fail
      go_roundw
      case rel => exact ⟨k + 1, by omega, by go_num, by rw [HSN.out]; exact HX9.out, HS9.out, HQr.out.trans HQ9.out⟩
      case measure => simp [intOf]; omega
    · have hkN : L.take k = L := List.take_of_length_le (by have := HLE.out; omega)
      rw [hkN] at hx
      have HX9 := hid hx
      have HO9 := hid ((HO2.out.keep hq HZ2.out))
      clear hkN hx hb hq
      obtain ⟨r, hr⟩ : ∃ r, sizesR s x y L = r := ⟨_, rfl⟩
      rw [hr] at HX9
      have HSZ := hid hr
      have k0 := (HX9.out.2 0 (.int .i64 r.lo) rfl).1; have k1 := (HX9.out.2 1 (.int .i64 r.hi) rfl).1
      have m0 := (HO9.out.2 0 (.int .i64 0) rfl).1; have m1 := (HO9.out.2 1 (.int .i64 0) rfl).1; have f0 := (HO9.out.2 0 (.int .i64 0) rfl).2; have f1 := (HO9.out.2 1 (.int .i64 0) rfl).2
      have HRR := hid ((HO9.out.put (j := 0) (.int .i64 r.lo)).put (j := 1) (.int .i64 r.hi))
      go_wp2_with fail
      have y0 := (HRR.out.2 0 (.int .i64 r.lo) rfl).1; have y1 := (HRR.out.2 1 (.int .i64 r.hi) rfl).1
      refine bodyPost_ret (v := .agg #[.int .i64 r.lo, .int .i64 r.hi]) (by simp [results, Try.f26, go_sem, y0, y1]) rfl ?_
      exact ⟨by rw [HSZ.out], (HB.out.below.setCell (p := ⟨w.heap.size + 1, 0, none⟩) (by show w.heap.size ≤ w.heap.size + 1; omega) _).setCell (p := ⟨w.heap.size + 1, 1, none⟩) (by show w.heap.size ≤ w.heap.size + 1; omega) _⟩
end Go.Proofs.Ytfnefkenheglhaa
