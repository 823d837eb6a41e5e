/- StormMore: with one more card no range is wider, what was inside or outside still is, as long as there is a truth, and no fewer cards have to be left out, but at most one more. For each storm of at most 1100000 cards, each card and each word. -/
import Derived.Test.YtfnefkenheglhaaPlMW
import Derived.Test.YtfnefkenheglhaaLawC
import Derived.Test.YtfnefkenheglhaaLawAwake
namespace Go.Proofs.Ytfnefkenheglhaa
open Go.RowKit

theorem more_ne {s : Sto} {z : Crd} (h : truthL (plusS s z) ≠ []) : truthL s ≠ [] := by
  obtain ⟨t, ht⟩ := List.exists_mem_of_ne_nil _ h
  exact List.ne_nil_of_mem (plus_mem.1 ht).1
theorem more_narrow {s : Sto} {z : Crd} (h : truthL (plusS s z) ≠ []) : narrowB (bndS (plusS s z)) (bndS s) = true := by
  have hs := more_ne h
  have hb : ∀ t ∈ truthL (plusS s z), t ∈ truthL s := fun t ht => (plus_mem.1 ht).1
  unfold narrowB
  rw [Bool.and_eq_true, Bool.and_eq_true, Bool.and_eq_true]
  exact ⟨(bound_span h).inside (bound_span hs) hb, (bound_span h).inside (bound_span hs) hb, (bound_span h).inside (bound_span hs) hb, (bound_span h).inside (bound_span hs) hb⟩
theorem more_verd {s : Sto} {z : Crd} {x y : Rng} (h : truthL (plusS s z) ≠ []) (hx : x.lo ≤ x.hi) (hy : y.lo ≤ y.hi) : verdT s (truthL s) x y = 3 ∨ verdT (plusS s z) (truthL (plusS s z)) x y = verdT s (truthL s) x y :=
  verd_less (s := s) h (places_ne hx hy) (fun _t ht => (plus_mem.1 ht).1)
theorem more_sizes {s : Sto} {z : Crd} {x y : Int} (h : truthL (plusS s z) ≠ []) :
    inside (spanT (plusS s z) x y ⟨firstT (plusS s z) x y (truthL (plusS s z)), firstT (plusS s z) x y (truthL (plusS s z))⟩ (truthL (plusS s z))) (spanT s x y ⟨firstT s x y (truthL s), firstT s x y (truthL s)⟩ (truthL s)) = true :=
  (span_bound (s := s) h).inside (span_bound (more_ne h)) (fun _t ht => (plus_mem.1 ht).1)

set_option maxRecDepth 40000 in
set_option maxHeartbeats 16000000 in
theorem stormMore_any (s : Sto) (p : Option Addr) (n c : Nat) (z : Crd) (wv : Int) (w : World) (hcs : CrdsAt w p n s.cards) (hwv : 0 ≤ wv ∧ wv ≤ 65535) (hn : n ≤ 1100000) :
    Calls Try.prog 5 #[.agg #[.int .i64 s.wide, .int .i64 s.high, .int .i64 s.fall, .int .i64 s.a.lo, .int .i64 s.a.hi, .int .i64 s.b.lo, .int .i64 s.b.hi, .int .i64 s.half.lo, .int .i64 s.half.hi, .int .i64 s.peak.lo, .int .i64 s.peak.hi, .slice p n c], .agg #[.int .i64 z.x.lo, .int .i64 z.x.hi, .int .i64 z.y.lo, .int .i64 z.y.hi, .bool z.hail, .int .i64 z.size.lo, .int .i64 z.size.hi], .int .u16 wv] w fun e w' => e = .returned (.bool true) ∧ Below w.heap.size w w' := by
  have HC := hid hcs
  have HRD := hid (fun W (hb : Below w.heap.size w W) => ready_any s p n c W (hcs.below hb))
  have HWV := hid hwv
  have HN9 := hid hn
  clear hcs hwv hn
  obtain ⟨w0, hw0⟩ : ∃ V, ((w.alloc (.cells #[.int .i64 s.wide, .int .i64 s.high, .int .i64 s.fall, .int .i64 s.a.lo, .int .i64 s.a.hi, .int .i64 s.b.lo, .int .i64 s.b.hi, .int .i64 s.half.lo, .int .i64 s.half.hi, .int .i64 s.peak.lo, .int .i64 s.peak.hi, .slice p n c] 26)).alloc (.cells #[.int .i64 z.x.lo, .int .i64 z.x.hi, .int .i64 z.y.lo, .int .i64 z.y.hi, .bool z.hail, .int .i64 z.size.lo, .int .i64 z.size.hi] 61)) = V := ⟨_, rfl⟩
  have H0 : Hid (Boxed2 w #[.int .i64 s.wide, .int .i64 s.high, .int .i64 s.fall, .int .i64 s.a.lo, .int .i64 s.a.hi, .int .i64 s.b.lo, .int .i64 s.b.hi, .int .i64 s.half.lo, .int .i64 s.half.hi, .int .i64 s.peak.lo, .int .i64 s.peak.hi, .slice p n c] 26 #[.int .i64 z.x.lo, .int .i64 z.x.hi, .int .i64 z.y.lo, .int .i64 z.y.hi, .bool z.hail, .int .i64 z.size.lo, .int .i64 z.size.hi] 61 w0) := by show Boxed2 _ _ _ _ _ _; rw [← hw0]; exact Below.refl _ _
  go_enter Try.func5, Try.ntmps5
  have e0 := (StoAt.of H0.out.cell1).c0; have e1 := (StoAt.of H0.out.cell1).c1; have e2 := (StoAt.of H0.out.cell1).c2; have e3 := (StoAt.of H0.out.cell1).c3; have e4 := (StoAt.of H0.out.cell1).c4; have e5 := (StoAt.of H0.out.cell1).c5; have e6 := (StoAt.of H0.out.cell1).c6; have e7 := (StoAt.of H0.out.cell1).c7; have e8 := (StoAt.of H0.out.cell1).c8; have e9 := (StoAt.of H0.out.cell1).c9; have e10 := (StoAt.of H0.out.cell1).c10; have e11 := (StoAt.of H0.out.cell1).c11
  obtain ⟨w1, hw1⟩ : ∃ V, (w0.alloc (.cells #[.int .i64 s.wide, .int .i64 s.high, .int .i64 s.fall, .int .i64 s.a.lo, .int .i64 s.a.hi, .int .i64 s.b.lo, .int .i64 s.b.hi, .int .i64 s.half.lo, .int .i64 s.half.hi, .int .i64 s.peak.lo, .int .i64 s.peak.hi, .slice p n c] 26)) = V := ⟨_, rfl⟩
  have H1 : Hid (Boxed2 w #[.int .i64 s.wide, .int .i64 s.high, .int .i64 s.fall, .int .i64 s.a.lo, .int .i64 s.a.hi, .int .i64 s.b.lo, .int .i64 s.b.hi, .int .i64 s.half.lo, .int .i64 s.half.hi, .int .i64 s.peak.lo, .int .i64 s.peak.hi, .slice p n c] 26 #[.int .i64 z.x.lo, .int .i64 z.x.hi, .int .i64 z.y.lo, .int .i64 z.y.hi, .bool z.hail, .int .i64 z.size.lo, .int .i64 z.size.hi] 61 w1) := by show Boxed2 w #[.int .i64 s.wide, .int .i64 s.high, .int .i64 s.fall, .int .i64 s.a.lo, .int .i64 s.a.hi, .int .i64 s.b.lo, .int .i64 s.b.hi, .int .i64 s.half.lo, .int .i64 s.half.hi, .int .i64 s.peak.lo, .int .i64 s.peak.hi, .slice p n c] 26 #[.int .i64 z.x.lo, .int .i64 z.x.hi, .int .i64 z.y.lo, .int .i64 z.y.hi, .bool z.hail, .int .i64 z.size.lo, .int .i64 z.size.hi] 61 w1; rw [← hw1]; exact H0.out.alloc _
  have HX : Hid (BoxIs w0.heap.size #[.int .i64 s.wide, .int .i64 s.high, .int .i64 s.fall, .int .i64 s.a.lo, .int .i64 s.a.hi, .int .i64 s.b.lo, .int .i64 s.b.hi, .int .i64 s.half.lo, .int .i64 s.half.hi, .int .i64 s.peak.lo, .int .i64 s.peak.hi, .slice p n c] w1) := by show BoxIs _ _ _; rw [← hw1]; exact BoxIs.start _ _ _
  have HBB : Hid (Below w0.heap.size w0 w1) := hid (by rw [← hw1]; exact (Below.refl _ _).alloc (Nat.le_refl _) _)
  go_upto_region 2 with fail
  clear hw1 HBB hw0 e0 e1 e2 e3 e4 e5 e6 e7 e8 e9 e10 e11
  have HLX : Hid (w.heap.size + 2 ≤ w0.heap.size) := hid H0.out.size
  go_upto_region 2 with fail
  go_cut [] from 25 (fun wr => ∃ q9 m9 d9, BoxIs w0.heap.size #[.int .i64 s.wide, .int .i64 s.high, .int .i64 s.fall, .int .i64 s.a.lo, .int .i64 s.a.hi, .int .i64 s.b.lo, .int .i64 s.b.hi, .int .i64 s.half.lo, .int .i64 s.half.hi, .int .i64 s.peak.lo, .int .i64 s.peak.hi, .slice q9 m9 d9] wr ∧ CrdsAt wr q9 m9 (s.cards ++ [z]) ∧ Boxed2 w #[.int .i64 s.wide, .int .i64 s.high, .int .i64 s.fall, .int .i64 s.a.lo, .int .i64 s.a.hi, .int .i64 s.b.lo, .int .i64 s.b.hi, .int .i64 s.half.lo, .int .i64 s.half.hi, .int .i64 s.peak.lo, .int .i64 s.peak.hi, .slice p n c] 26 #[.int .i64 z.x.lo, .int .i64 z.x.hi, .int .i64 z.y.lo, .int .i64 z.y.hi, .bool z.hail, .int .i64 z.size.lo, .int .i64 z.size.hi] 61 wr ∧ Below w0.heap.size w1 wr)
  case first =>
    obtain ⟨wd, hwd⟩ : ∃ V, w1.drew = V := ⟨_, rfl⟩
    have HD := hid H1.out.drew
    replace HX := hid (HX.out.below (Below.refl _ _).drew)
    rw [hwd] at HD HX
    have HWD : Hid (Below w1.heap.size w1 wd) := hid (by rw [← hwd]; exact (Below.refl _ _).drew)
    have hB : Hid (Below wd.heap.size wd wd) := hid (Below.refl _ _)
    have HBL : Hid (w0.heap.size < wd.heap.size) := hid HX.out.1
    have HLO := hid HD.out.size
    have HBK : Hid (w0.heap.size ≤ w1.heap.size) := hid (by have h1 := HBL.out; rw [← hwd] at h1; exact Nat.le_of_lt h1)
    refine wp_region_held_drew (S := fun V => Boxed2 w #[.int .i64 s.wide, .int .i64 s.high, .int .i64 s.fall, .int .i64 s.a.lo, .int .i64 s.a.hi, .int .i64 s.b.lo, .int .i64 s.b.hi, .int .i64 s.half.lo, .int .i64 s.half.hi, .int .i64 s.peak.lo, .int .i64 s.peak.hi, .slice p n c] 26 #[.int .i64 z.x.lo, .int .i64 z.x.hi, .int .i64 z.y.lo, .int .i64 z.y.hi, .bool z.hail, .int .i64 z.size.lo, .int .i64 z.size.hi] 61 V ∧ Below w0.heap.size wd V) (by kernel_rfl) (by rw [hwd]; exact ⟨HD.out, Below.refl _ _⟩) (fun hS => ?_)
    rw [hwd] at hS ⊢
    clear hwd
    simp only [List.size_toArray, List.length_cons, List.length_nil, Nat.reduceAdd, Array.replicate_succ, Array.replicate_zero, List.push_toArray, List.nil_append, List.cons_append]
    refine wpAnyH_take (i := 1) (v := ?_) rfl (by kernel_rfl) (by kernel_rfl) (by kernel_rfl) (fun _ _ _ h => h) (Or.inl ⟨by rfl, fun V hV => ?_⟩) (by assumption) ?_
    rotate_left
    · go_simp
      try with_reducible rfl
    try simp only [Act.put, List.getElem_toArray, List.getElem_cons_zero, List.getElem_cons_succ, List.setIfInBounds_toArray, List.set_cons_zero, List.set_cons_succ]
    refine wpAnyH_take (i := 2) (v := ?_) rfl (by kernel_rfl) (by kernel_rfl) (by kernel_rfl) (fun _ _ _ h => h) (Or.inl ⟨by rfl, fun V hV => ?_⟩) (by assumption) ?_
    rotate_left
    · have e11 := (StoAt.of hV.1.cell1).c11; go_simp
      try with_reducible rfl
    try simp only [Act.put, List.getElem_toArray, List.getElem_cons_zero, List.getElem_cons_succ, List.setIfInBounds_toArray, List.set_cons_zero, List.set_cons_succ]
    refine wpAnyH_take (i := 4) (v := ?_) rfl (by kernel_rfl) (by kernel_rfl) (by kernel_rfl) (fun _ _ _ h => h) (Or.inl ⟨by rfl, fun V hV => ?_⟩) (by assumption) ?_
    rotate_left
    · have d0 := hV.1.cell2 0 (v := .int .i64 z.x.lo) rfl; have d1 := hV.1.cell2 1 (v := .int .i64 z.x.hi) rfl; have d2 := hV.1.cell2 2 (v := .int .i64 z.y.lo) rfl; have d3 := hV.1.cell2 3 (v := .int .i64 z.y.hi) rfl; have d4 := hV.1.cell2 4 (v := .bool z.hail) rfl; have d5 := hV.1.cell2 5 (v := .int .i64 z.size.lo) rfl; have d6 := hV.1.cell2 6 (v := .int .i64 z.size.hi) rfl; go_simp
      try with_reducible rfl
    try simp only [Act.put, List.getElem_toArray, List.getElem_cons_zero, List.getElem_cons_succ, List.setIfInBounds_toArray, List.set_cons_zero, List.set_cons_succ]
    refine wpAnyH_ready (rs := [0, 5]) (by kernel_rfl) (by simp) ?_
    refine AllReadyH.cons (o := _) rfl (fun K hK => ?_) ?_
    · skip
      obtain ⟨v0, hv0⟩ : ∃ V, wd.alloc (.cells #[] 61) = V := ⟨_, rfl⟩
      have hb : Below wd.heap.size wd v0 := by rw [← hv0]; exact (Below.refl _ _).alloc (Nat.le_refl _) _
      have hz0 : Hid (v0.heap.size = wd.heap.size + 1) := by show _ = _; rw [← hv0]; exact World.size_alloc _ _
      have HO : Hid (OwnRows cellsK 7 61 v0 wd.heap.size (.slice (some ⟨wd.heap.size, 0, none⟩) 0 0) []) := by show OwnRows _ _ _ _ _ _ _; rw [← hv0]; exact World.ownsRow_lit wd #[] 0 hB.out.size (by decide) rfl
      have HNX := hid (show Boxed2 w #[.int .i64 s.wide, .int .i64 s.high, .int .i64 s.fall, .int .i64 s.a.lo, .int .i64 s.a.hi, .int .i64 s.b.lo, .int .i64 s.b.hi, .int .i64 s.half.lo, .int .i64 s.half.hi, .int .i64 s.peak.lo, .int .i64 s.peak.hi, .slice p n c] 26 #[.int .i64 z.x.lo, .int .i64 z.x.hi, .int .i64 z.y.lo, .int .i64 z.y.hi, .bool z.hail, .int .i64 z.size.lo, .int .i64 z.size.hi] 61 v0 ∧ Below w0.heap.size wd v0 from ⟨hS.1.step (hb.mono (by have := hS.1.size; omega)), hS.2.trans (hb.mono (Nat.le_of_lt (Nat.lt_of_lt_of_le HBL.out hB.out.size)))⟩)
      replace hB := hid (hB.out.trans (hb.mono hB.out.size))
      clear hb hS
      go_simp
      refine hK.out _ _ (HNX.out) (fun hS => ?_)
      clear hK K
      try simp only [List.setIfInBounds_toArray, List.set_cons_zero]
      refine wpAnyH_ready (rs := [3, 5]) (by kernel_rfl) (by simp) ?_
      refine AllReadyH.cons (o := _) rfl (fun K hK => ?_) ?_
      · skip
        refine step_append_crds (by rfl) (.tmp 26) (.tmp 28) (by rfl) wd.heap.size _ [] p n c s.cards HO.out (by rfl) (by rfl) (HC.out.below hS.1.below) (by simp) (by have := HN9.out; omega) hB.out.size ?_
        intro a3 v3 ho3 hb hkk
        rw [List.nil_append] at ho3
        have HO3 := hid ho3
        have HNX := hid (show Boxed2 w #[.int .i64 s.wide, .int .i64 s.high, .int .i64 s.fall, .int .i64 s.a.lo, .int .i64 s.a.hi, .int .i64 s.b.lo, .int .i64 s.b.hi, .int .i64 s.half.lo, .int .i64 s.half.hi, .int .i64 s.peak.lo, .int .i64 s.peak.hi, .slice p n c] 26 #[.int .i64 z.x.lo, .int .i64 z.x.hi, .int .i64 z.y.lo, .int .i64 z.y.hi, .bool z.hail, .int .i64 z.size.lo, .int .i64 z.size.hi] 61 v3 ∧ Below w0.heap.size wd v3 from ⟨hS.1.step (hb.mono HLO.out), hS.2.trans (hb.mono (Nat.le_of_lt HBL.out))⟩)
        replace hB := hid (hB.out.trans hb)
        clear hb hkk ho3 HO hS
        refine hK.out _ _ (HNX.out) (fun hS => ?_)
        clear hK K
        try simp only [Act.put, List.getElem_toArray, List.getElem_cons_zero, List.getElem_cons_succ, List.setIfInBounds_toArray, List.set_cons_zero, List.set_cons_succ]
        refine wpAnyH_ready (rs := [5]) (by kernel_rfl) (by simp) ?_
        refine AllReadyH.cons (o := _) rfl (fun K hK => ?_) AllReadyH.nil
        obtain ⟨v5, hv5⟩ : ∃ V, v3.alloc (.cells #[.int .i64 z.x.lo, .int .i64 z.x.hi, .int .i64 z.y.lo, .int .i64 z.y.hi, .bool z.hail, .int .i64 z.size.lo, .int .i64 z.size.hi] 61) = V := ⟨_, rfl⟩
        have hb : Below v3.heap.size v3 v5 := by rw [← hv5]; exact (Below.refl _ _).alloc (Nat.le_refl _) _
        have hz5 : Hid (v5.heap.size = v3.heap.size + 1) := by show _ = _; rw [← hv5]; exact World.size_alloc _ _
        have H1 : Hid (CrdsAt v5 (some ⟨v3.heap.size, 0, none⟩) 1 [z]) := by show CrdsAt _ _ _ _; rw [← hv5]; exact crds_iff.2 (crd_lit z 61)
        replace HO3 := hid (HO3.out.below hb)
        have HNX := hid (show Boxed2 w #[.int .i64 s.wide, .int .i64 s.high, .int .i64 s.fall, .int .i64 s.a.lo, .int .i64 s.a.hi, .int .i64 s.b.lo, .int .i64 s.b.hi, .int .i64 s.half.lo, .int .i64 s.half.hi, .int .i64 s.peak.lo, .int .i64 s.peak.hi, .slice p n c] 26 #[.int .i64 z.x.lo, .int .i64 z.x.hi, .int .i64 z.y.lo, .int .i64 z.y.hi, .bool z.hail, .int .i64 z.size.lo, .int .i64 z.size.hi] 61 v5 ∧ Below w0.heap.size wd v5 from ⟨hS.1.step (hb.mono (by have := hS.1.size; omega)), hS.2.trans (hb.mono (Nat.le_of_lt (Nat.lt_of_lt_of_le HBL.out hB.out.size)))⟩)
        replace hB := hid (hB.out.trans (hb.mono hB.out.size))
        clear hb hS
        go_simp
        refine hK.out _ _ (HNX.out) (fun hS => ?_)
        clear hK K
        try simp only [List.setIfInBounds_toArray, List.set_cons_zero, List.set_cons_succ]
        refine wpAnyH_ready (rs := [6]) (by kernel_rfl) (by simp) ?_
        refine AllReadyH.cons (o := _) rfl (fun K hK => ?_) AllReadyH.nil
        refine step_append_crds (by rfl) (.tmp 29) (.tmp 31) (by rfl) wd.heap.size _ s.cards _ 1 1 [z] HO3.out (by rfl) (by rfl) H1.out (by have h1 := HC.out.1; have := HN9.out; omega) (by omega) hB.out.size ?_
        intro a6 v6 ho6 hb hkk
        have HNX := hid (show Boxed2 w #[.int .i64 s.wide, .int .i64 s.high, .int .i64 s.fall, .int .i64 s.a.lo, .int .i64 s.a.hi, .int .i64 s.b.lo, .int .i64 s.b.hi, .int .i64 s.half.lo, .int .i64 s.half.hi, .int .i64 s.peak.lo, .int .i64 s.peak.hi, .slice p n c] 26 #[.int .i64 z.x.lo, .int .i64 z.x.hi, .int .i64 z.y.lo, .int .i64 z.y.hi, .bool z.hail, .int .i64 z.size.lo, .int .i64 z.size.hi] 61 v6 ∧ Below w0.heap.size wd v6 from ⟨hS.1.step (hb.mono HLO.out), hS.2.trans (hb.mono (Nat.le_of_lt HBL.out))⟩)
        replace hB := hid (hB.out.trans hb)
        clear hb hkk H1 HO3 hS
        obtain ⟨q9, d9, rfl, hq9⟩ := ho6.slice cellsK_len
        obtain ⟨m9, hm9⟩ : ∃ a, (s.cards ++ [z]).length = a := ⟨_, rfl⟩
        rw [hm9] at hq9 ho6 ⊢
        have HQ9 := hid (crds_iff.2 hq9); have HO6 := hid ho6
        clear hq9 ho6 hm9
        refine hK.out _ _ (HNX.out) (fun hS => ?_)
        clear hK K
        try simp only [Act.put, List.getElem_toArray, List.getElem_cons_zero, List.getElem_cons_succ, List.setIfInBounds_toArray, List.set_cons_zero, List.set_cons_succ]
        refine wpAnyH_take (i := 7) (v := ?_) rfl (by kernel_rfl) (by kernel_rfl) (by kernel_rfl) (fun _ _ _ h => h) (Or.inl ⟨by rfl, fun V hV => ?_⟩) (by assumption) ?_
        rotate_left
        · go_simp
          try with_reducible rfl
        try simp only [Act.put, List.getElem_toArray, List.getElem_cons_zero, List.getElem_cons_succ, List.setIfInBounds_toArray, List.set_cons_zero, List.set_cons_succ]
        refine wpAnyH_ready (rs := [8]) (by kernel_rfl) (by simp) ?_
        refine AllReadyH.cons (o := _) rfl (fun K hK => ?_) AllReadyH.nil
        have HXv := hid (HX.out.keep hB.out HBL.out)
        have k11 := (HXv.out.2 11 (.slice p n c) rfl).1; have f11 := (HXv.out.2 11 (.slice p n c) rfl).2
        have HXF : Hid (BoxIs w0.heap.size #[.int .i64 s.wide, .int .i64 s.high, .int .i64 s.fall, .int .i64 s.a.lo, .int .i64 s.a.hi, .int .i64 s.b.lo, .int .i64 s.b.hi, .int .i64 s.half.lo, .int .i64 s.half.hi, .int .i64 s.peak.lo, .int .i64 s.peak.hi, .slice q9 m9 d9] (v6.setCell ⟨w0.heap.size, 11, none⟩ (.slice q9 m9 d9))) := hid (HXv.out.put (j := 11) (.slice q9 m9 d9))
        have HKF : Hid (CrdsAt (v6.setCell ⟨w0.heap.size, 11, none⟩ (.slice q9 m9 d9)) q9 m9 (s.cards ++ [z])) := hid (HQ9.out.kept (by simp [World.setCell]) (fun a ha h0 hlt => Below.heap_setCell _ _ _ _ (by have h7 : wd.heap.size ≤ a.block := (by cases ha; exact (HO6.out.lt _ rfl).1); have h8 := HBL.out; show a.block ≠ w0.heap.size; omega)))
        have HNX := hid (show Boxed2 w #[.int .i64 s.wide, .int .i64 s.high, .int .i64 s.fall, .int .i64 s.a.lo, .int .i64 s.a.hi, .int .i64 s.b.lo, .int .i64 s.b.hi, .int .i64 s.half.lo, .int .i64 s.half.hi, .int .i64 s.peak.lo, .int .i64 s.peak.hi, .slice p n c] 26 #[.int .i64 z.x.lo, .int .i64 z.x.hi, .int .i64 z.y.lo, .int .i64 z.y.hi, .bool z.hail, .int .i64 z.size.lo, .int .i64 z.size.hi] 61 (v6.setCell ⟨w0.heap.size, 11, none⟩ (.slice q9 m9 d9)) ∧ Below w0.heap.size wd (v6.setCell ⟨w0.heap.size, 11, none⟩ (.slice q9 m9 d9)) from ⟨hS.1.step ((Below.refl _ _).setCell (p := ⟨w0.heap.size, 11, none⟩) HLX.out _), hS.2.setCell (p := ⟨w0.heap.size, 11, none⟩) (Nat.le_refl _) _⟩)
        clear hS
        go_simp
        clear k11 f11
        generalize (v6.setCell ⟨w0.heap.size, 11, none⟩ (.slice q9 m9 d9)) = v9 at HXF HKF HNX  ⊢
        refine hK.out _ _ (HNX.out) (fun hS => ?_)
        clear hK K
        try simp only [List.setIfInBounds_toArray, List.set_cons_zero, List.set_cons_succ]
        refine wpAnyH_done (by kernel_rfl) ?_ _
        go_wp2
        go_meet
        case rel => exact ⟨q9, m9, d9, HXF.out, HKF.out, hS.1, Below.trans (HWD.out.mono HBK.out |> fun h => h) hS.2⟩
      refine AllReadyH.cons (o := _) rfl (fun K hK => ?_) AllReadyH.nil
      obtain ⟨v5, hv5⟩ : ∃ V, v0.alloc (.cells #[.int .i64 z.x.lo, .int .i64 z.x.hi, .int .i64 z.y.lo, .int .i64 z.y.hi, .bool z.hail, .int .i64 z.size.lo, .int .i64 z.size.hi] 61) = V := ⟨_, rfl⟩
      have hb : Below v0.heap.size v0 v5 := by rw [← hv5]; exact (Below.refl _ _).alloc (Nat.le_refl _) _
      have hz5 : Hid (v5.heap.size = v0.heap.size + 1) := by show _ = _; rw [← hv5]; exact World.size_alloc _ _
      have H1 : Hid (CrdsAt v5 (some ⟨v0.heap.size, 0, none⟩) 1 [z]) := by show CrdsAt _ _ _ _; rw [← hv5]; exact crds_iff.2 (crd_lit z 61)
      replace HO := hid (HO.out.below hb)
      have HNX := hid (show Boxed2 w #[.int .i64 s.wide, .int .i64 s.high, .int .i64 s.fall, .int .i64 s.a.lo, .int .i64 s.a.hi, .int .i64 s.b.lo, .int .i64 s.b.hi, .int .i64 s.half.lo, .int .i64 s.half.hi, .int .i64 s.peak.lo, .int .i64 s.peak.hi, .slice p n c] 26 #[.int .i64 z.x.lo, .int .i64 z.x.hi, .int .i64 z.y.lo, .int .i64 z.y.hi, .bool z.hail, .int .i64 z.size.lo, .int .i64 z.size.hi] 61 v5 ∧ Below w0.heap.size wd v5 from ⟨hS.1.step (hb.mono (by have := hS.1.size; omega)), hS.2.trans (hb.mono (Nat.le_of_lt (Nat.lt_of_lt_of_le HBL.out hB.out.size)))⟩)
      replace hB := hid (hB.out.trans (hb.mono hB.out.size))
      clear hb hS
      go_simp
      refine hK.out _ _ (HNX.out) (fun hS => ?_)
      clear hK K
      try simp only [List.setIfInBounds_toArray, List.set_cons_zero, List.set_cons_succ]
      refine wpAnyH_ready (rs := [3]) (by kernel_rfl) (by simp) ?_
      refine AllReadyH.cons (o := _) rfl (fun K hK => ?_) AllReadyH.nil
      refine step_append_crds (by rfl) (.tmp 26) (.tmp 28) (by rfl) wd.heap.size _ [] p n c s.cards HO.out (by rfl) (by rfl) (HC.out.below hS.1.below) (by simp) (by have := HN9.out; omega) hB.out.size ?_
      intro a3 v3 ho3 hb hkk
      rw [List.nil_append] at ho3
      have HO3 := hid ho3
      replace H1 := hid (H1.out.kept hb.size (fun a ha _ hlt => hkk _ hlt (by cases ha; intro e; have e2 : v0.heap.size = wd.heap.size := (by simpa [Value.ownBlock] using e); have e3 := hz0.out; omega)))
      have HNX := hid (show Boxed2 w #[.int .i64 s.wide, .int .i64 s.high, .int .i64 s.fall, .int .i64 s.a.lo, .int .i64 s.a.hi, .int .i64 s.b.lo, .int .i64 s.b.hi, .int .i64 s.half.lo, .int .i64 s.half.hi, .int .i64 s.peak.lo, .int .i64 s.peak.hi, .slice p n c] 26 #[.int .i64 z.x.lo, .int .i64 z.x.hi, .int .i64 z.y.lo, .int .i64 z.y.hi, .bool z.hail, .int .i64 z.size.lo, .int .i64 z.size.hi] 61 v3 ∧ Below w0.heap.size wd v3 from ⟨hS.1.step (hb.mono HLO.out), hS.2.trans (hb.mono (Nat.le_of_lt HBL.out))⟩)
      replace hB := hid (hB.out.trans hb)
      clear hb hkk ho3 HO hS
      refine hK.out _ _ (HNX.out) (fun hS => ?_)
      clear hK K
      try simp only [Act.put, List.getElem_toArray, List.getElem_cons_zero, List.getElem_cons_succ, List.setIfInBounds_toArray, List.set_cons_zero, List.set_cons_succ]
      refine wpAnyH_ready (rs := [6]) (by kernel_rfl) (by simp) ?_
      refine AllReadyH.cons (o := _) rfl (fun K hK => ?_) AllReadyH.nil
      refine step_append_crds (by rfl) (.tmp 29) (.tmp 31) (by rfl) wd.heap.size _ s.cards _ 1 1 [z] HO3.out (by rfl) (by rfl) H1.out (by have h1 := HC.out.1; have := HN9.out; omega) (by omega) hB.out.size ?_
      intro a6 v6 ho6 hb hkk
      have HNX := hid (show Boxed2 w #[.int .i64 s.wide, .int .i64 s.high, .int .i64 s.fall, .int .i64 s.a.lo, .int .i64 s.a.hi, .int .i64 s.b.lo, .int .i64 s.b.hi, .int .i64 s.half.lo, .int .i64 s.half.hi, .int .i64 s.peak.lo, .int .i64 s.peak.hi, .slice p n c] 26 #[.int .i64 z.x.lo, .int .i64 z.x.hi, .int .i64 z.y.lo, .int .i64 z.y.hi, .bool z.hail, .int .i64 z.size.lo, .int .i64 z.size.hi] 61 v6 ∧ Below w0.heap.size wd v6 from ⟨hS.1.step (hb.mono HLO.out), hS.2.trans (hb.mono (Nat.le_of_lt HBL.out))⟩)
      replace hB := hid (hB.out.trans hb)
      clear hb hkk H1 HO3 hS
      obtain ⟨q9, d9, rfl, hq9⟩ := ho6.slice cellsK_len
      obtain ⟨m9, hm9⟩ : ∃ a, (s.cards ++ [z]).length = a := ⟨_, rfl⟩
      rw [hm9] at hq9 ho6 ⊢
      have HQ9 := hid (crds_iff.2 hq9); have HO6 := hid ho6
      clear hq9 ho6 hm9
      refine hK.out _ _ (HNX.out) (fun hS => ?_)
      clear hK K
      try simp only [Act.put, List.getElem_toArray, List.getElem_cons_zero, List.getElem_cons_succ, List.setIfInBounds_toArray, List.set_cons_zero, List.set_cons_succ]
      refine wpAnyH_take (i := 7) (v := ?_) rfl (by kernel_rfl) (by kernel_rfl) (by kernel_rfl) (fun _ _ _ h => h) (Or.inl ⟨by rfl, fun V hV => ?_⟩) (by assumption) ?_
      rotate_left
      · go_simp
        try with_reducible rfl
      try simp only [Act.put, List.getElem_toArray, List.getElem_cons_zero, List.getElem_cons_succ, List.setIfInBounds_toArray, List.set_cons_zero, List.set_cons_succ]
      refine wpAnyH_ready (rs := [8]) (by kernel_rfl) (by simp) ?_
      refine AllReadyH.cons (o := _) rfl (fun K hK => ?_) AllReadyH.nil
      have HXv := hid (HX.out.keep hB.out HBL.out)
      have k11 := (HXv.out.2 11 (.slice p n c) rfl).1; have f11 := (HXv.out.2 11 (.slice p n c) rfl).2
      have HXF : Hid (BoxIs w0.heap.size #[.int .i64 s.wide, .int .i64 s.high, .int .i64 s.fall, .int .i64 s.a.lo, .int .i64 s.a.hi, .int .i64 s.b.lo, .int .i64 s.b.hi, .int .i64 s.half.lo, .int .i64 s.half.hi, .int .i64 s.peak.lo, .int .i64 s.peak.hi, .slice q9 m9 d9] (v6.setCell ⟨w0.heap.size, 11, none⟩ (.slice q9 m9 d9))) := hid (HXv.out.put (j := 11) (.slice q9 m9 d9))
      have HKF : Hid (CrdsAt (v6.setCell ⟨w0.heap.size, 11, none⟩ (.slice q9 m9 d9)) q9 m9 (s.cards ++ [z])) := hid (HQ9.out.kept (by simp [World.setCell]) (fun a ha h0 hlt => Below.heap_setCell _ _ _ _ (by have h7 : wd.heap.size ≤ a.block := (by cases ha; exact (HO6.out.lt _ rfl).1); have h8 := HBL.out; show a.block ≠ w0.heap.size; omega)))
      have HNX := hid (show Boxed2 w #[.int .i64 s.wide, .int .i64 s.high, .int .i64 s.fall, .int .i64 s.a.lo, .int .i64 s.a.hi, .int .i64 s.b.lo, .int .i64 s.b.hi, .int .i64 s.half.lo, .int .i64 s.half.hi, .int .i64 s.peak.lo, .int .i64 s.peak.hi, .slice p n c] 26 #[.int .i64 z.x.lo, .int .i64 z.x.hi, .int .i64 z.y.lo, .int .i64 z.y.hi, .bool z.hail, .int .i64 z.size.lo, .int .i64 z.size.hi] 61 (v6.setCell ⟨w0.heap.size, 11, none⟩ (.slice q9 m9 d9)) ∧ Below w0.heap.size wd (v6.setCell ⟨w0.heap.size, 11, none⟩ (.slice q9 m9 d9)) from ⟨hS.1.step ((Below.refl _ _).setCell (p := ⟨w0.heap.size, 11, none⟩) HLX.out _), hS.2.setCell (p := ⟨w0.heap.size, 11, none⟩) (Nat.le_refl _) _⟩)
      clear hS
      go_simp
      clear k11 f11
      generalize (v6.setCell ⟨w0.heap.size, 11, none⟩ (.slice q9 m9 d9)) = v9 at HXF HKF HNX  ⊢
      refine hK.out _ _ (HNX.out) (fun hS => ?_)
      clear hK K
      try simp only [List.setIfInBounds_toArray, List.set_cons_zero, List.set_cons_succ]
      refine wpAnyH_done (by kernel_rfl) ?_ _
      go_wp2
      go_meet
      case rel => exact ⟨q9, m9, d9, HXF.out, HKF.out, hS.1, Below.trans (HWD.out.mono HBK.out |> fun h => h) hS.2⟩
    refine AllReadyH.cons (o := _) rfl (fun K hK => ?_) AllReadyH.nil
    obtain ⟨v5, hv5⟩ : ∃ V, wd.alloc (.cells #[.int .i64 z.x.lo, .int .i64 z.x.hi, .int .i64 z.y.lo, .int .i64 z.y.hi, .bool z.hail, .int .i64 z.size.lo, .int .i64 z.size.hi] 61) = V := ⟨_, rfl⟩
    have hb : Below wd.heap.size wd v5 := by rw [← hv5]; exact (Below.refl _ _).alloc (Nat.le_refl _) _
    have hz5 : Hid (v5.heap.size = wd.heap.size + 1) := by show _ = _; rw [← hv5]; exact World.size_alloc _ _
    have H1 : Hid (CrdsAt v5 (some ⟨wd.heap.size, 0, none⟩) 1 [z]) := by show CrdsAt _ _ _ _; rw [← hv5]; exact crds_iff.2 (crd_lit z 61)
    have HNX := hid (show Boxed2 w #[.int .i64 s.wide, .int .i64 s.high, .int .i64 s.fall, .int .i64 s.a.lo, .int .i64 s.a.hi, .int .i64 s.b.lo, .int .i64 s.b.hi, .int .i64 s.half.lo, .int .i64 s.half.hi, .int .i64 s.peak.lo, .int .i64 s.peak.hi, .slice p n c] 26 #[.int .i64 z.x.lo, .int .i64 z.x.hi, .int .i64 z.y.lo, .int .i64 z.y.hi, .bool z.hail, .int .i64 z.size.lo, .int .i64 z.size.hi] 61 v5 ∧ Below w0.heap.size wd v5 from ⟨hS.1.step (hb.mono (by have := hS.1.size; omega)), hS.2.trans (hb.mono (Nat.le_of_lt (Nat.lt_of_lt_of_le HBL.out hB.out.size)))⟩)
    replace hB := hid (hB.out.trans (hb.mono hB.out.size))
    clear hb hS
    go_simp
    refine hK.out _ _ (HNX.out) (fun hS => ?_)
    clear hK K
    try simp only [List.setIfInBounds_toArray, List.set_cons_zero, List.set_cons_succ]
    refine wpAnyH_ready (rs := [0]) (by kernel_rfl) (by simp) ?_
    refine AllReadyH.cons (o := _) rfl (fun K hK => ?_) AllReadyH.nil
    obtain ⟨v0, hv0⟩ : ∃ V, v5.alloc (.cells #[] 61) = V := ⟨_, rfl⟩
    have hb : Below v5.heap.size v5 v0 := by rw [← hv0]; exact (Below.refl _ _).alloc (Nat.le_refl _) _
    have hz0 : Hid (v0.heap.size = v5.heap.size + 1) := by show _ = _; rw [← hv0]; exact World.size_alloc _ _
    have HO : Hid (OwnRows cellsK 7 61 v0 wd.heap.size (.slice (some ⟨v5.heap.size, 0, none⟩) 0 0) []) := by show OwnRows _ _ _ _ _ _ _; rw [← hv0]; exact World.ownsRow_lit v5 #[] 0 hB.out.size (by decide) rfl
    replace H1 := hid (H1.out.below hb)
    have HNX := hid (show Boxed2 w #[.int .i64 s.wide, .int .i64 s.high, .int .i64 s.fall, .int .i64 s.a.lo, .int .i64 s.a.hi, .int .i64 s.b.lo, .int .i64 s.b.hi, .int .i64 s.half.lo, .int .i64 s.half.hi, .int .i64 s.peak.lo, .int .i64 s.peak.hi, .slice p n c] 26 #[.int .i64 z.x.lo, .int .i64 z.x.hi, .int .i64 z.y.lo, .int .i64 z.y.hi, .bool z.hail, .int .i64 z.size.lo, .int .i64 z.size.hi] 61 v0 ∧ Below w0.heap.size wd v0 from ⟨hS.1.step (hb.mono (by have := hS.1.size; omega)), hS.2.trans (hb.mono (Nat.le_of_lt (Nat.lt_of_lt_of_le HBL.out hB.out.size)))⟩)
    replace hB := hid (hB.out.trans (hb.mono hB.out.size))
    clear hb hS
    go_simp
    refine hK.out _ _ (HNX.out) (fun hS => ?_)
    clear hK K
    try simp only [List.setIfInBounds_toArray, List.set_cons_zero]
    refine wpAnyH_ready (rs := [3]) (by kernel_rfl) (by simp) ?_
    refine AllReadyH.cons (o := _) rfl (fun K hK => ?_) AllReadyH.nil
    refine step_append_crds (by rfl) (.tmp 26) (.tmp 28) (by rfl) wd.heap.size _ [] p n c s.cards HO.out (by rfl) (by rfl) (HC.out.below hS.1.below) (by simp) (by have := HN9.out; omega) hB.out.size ?_
    intro a3 v3 ho3 hb hkk
    rw [List.nil_append] at ho3
    have HO3 := hid ho3
    replace H1 := hid (H1.out.kept hb.size (fun a ha _ hlt => hkk _ hlt (by cases ha; intro e; have e2 : wd.heap.size = v5.heap.size := (by simpa [Value.ownBlock] using e); have e3 := hz5.out; omega)))
    have HNX := hid (show Boxed2 w #[.int .i64 s.wide, .int .i64 s.high, .int .i64 s.fall, .int .i64 s.a.lo, .int .i64 s.a.hi, .int .i64 s.b.lo, .int .i64 s.b.hi, .int .i64 s.half.lo, .int .i64 s.half.hi, .int .i64 s.peak.lo, .int .i64 s.peak.hi, .slice p n c] 26 #[.int .i64 z.x.lo, .int .i64 z.x.hi, .int .i64 z.y.lo, .int .i64 z.y.hi, .bool z.hail, .int .i64 z.size.lo, .int .i64 z.size.hi] 61 v3 ∧ Below w0.heap.size wd v3 from ⟨hS.1.step (hb.mono HLO.out), hS.2.trans (hb.mono (Nat.le_of_lt HBL.out))⟩)
    replace hB := hid (hB.out.trans hb)
    clear hb hkk ho3 HO hS
    refine hK.out _ _ (HNX.out) (fun hS => ?_)
    clear hK K
    try simp only [Act.put, List.getElem_toArray, List.getElem_cons_zero, List.getElem_cons_succ, List.setIfInBounds_toArray, List.set_cons_zero, List.set_cons_succ]
    refine wpAnyH_ready (rs := [6]) (by kernel_rfl) (by simp) ?_
    refine AllReadyH.cons (o := _) rfl (fun K hK => ?_) AllReadyH.nil
    refine step_append_crds (by rfl) (.tmp 29) (.tmp 31) (by rfl) wd.heap.size _ s.cards _ 1 1 [z] HO3.out (by rfl) (by rfl) H1.out (by have h1 := HC.out.1; have := HN9.out; omega) (by omega) hB.out.size ?_
    intro a6 v6 ho6 hb hkk
    have HNX := hid (show Boxed2 w #[.int .i64 s.wide, .int .i64 s.high, .int .i64 s.fall, .int .i64 s.a.lo, .int .i64 s.a.hi, .int .i64 s.b.lo, .int .i64 s.b.hi, .int .i64 s.half.lo, .int .i64 s.half.hi, .int .i64 s.peak.lo, .int .i64 s.peak.hi, .slice p n c] 26 #[.int .i64 z.x.lo, .int .i64 z.x.hi, .int .i64 z.y.lo, .int .i64 z.y.hi, .bool z.hail, .int .i64 z.size.lo, .int .i64 z.size.hi] 61 v6 ∧ Below w0.heap.size wd v6 from ⟨hS.1.step (hb.mono HLO.out), hS.2.trans (hb.mono (Nat.le_of_lt HBL.out))⟩)
    replace hB := hid (hB.out.trans hb)
    clear hb hkk H1 HO3 hS
    obtain ⟨q9, d9, rfl, hq9⟩ := ho6.slice cellsK_len
    obtain ⟨m9, hm9⟩ : ∃ a, (s.cards ++ [z]).length = a := ⟨_, rfl⟩
    rw [hm9] at hq9 ho6 ⊢
    have HQ9 := hid (crds_iff.2 hq9); have HO6 := hid ho6
    clear hq9 ho6 hm9
    refine hK.out _ _ (HNX.out) (fun hS => ?_)
    clear hK K
    try simp only [Act.put, List.getElem_toArray, List.getElem_cons_zero, List.getElem_cons_succ, List.setIfInBounds_toArray, List.set_cons_zero, List.set_cons_succ]
    refine wpAnyH_take (i := 7) (v := ?_) rfl (by kernel_rfl) (by kernel_rfl) (by kernel_rfl) (fun _ _ _ h => h) (Or.inl ⟨by rfl, fun V hV => ?_⟩) (by assumption) ?_
    rotate_left
    · go_simp
      try with_reducible rfl
    try simp only [Act.put, List.getElem_toArray, List.getElem_cons_zero, List.getElem_cons_succ, List.setIfInBounds_toArray, List.set_cons_zero, List.set_cons_succ]
    refine wpAnyH_ready (rs := [8]) (by kernel_rfl) (by simp) ?_
    refine AllReadyH.cons (o := _) rfl (fun K hK => ?_) AllReadyH.nil
    have HXv := hid (HX.out.keep hB.out HBL.out)
    have k11 := (HXv.out.2 11 (.slice p n c) rfl).1; have f11 := (HXv.out.2 11 (.slice p n c) rfl).2
    have HXF : Hid (BoxIs w0.heap.size #[.int .i64 s.wide, .int .i64 s.high, .int .i64 s.fall, .int .i64 s.a.lo, .int .i64 s.a.hi, .int .i64 s.b.lo, .int .i64 s.b.hi, .int .i64 s.half.lo, .int .i64 s.half.hi, .int .i64 s.peak.lo, .int .i64 s.peak.hi, .slice q9 m9 d9] (v6.setCell ⟨w0.heap.size, 11, none⟩ (.slice q9 m9 d9))) := hid (HXv.out.put (j := 11) (.slice q9 m9 d9))
    have HKF : Hid (CrdsAt (v6.setCell ⟨w0.heap.size, 11, none⟩ (.slice q9 m9 d9)) q9 m9 (s.cards ++ [z])) := hid (HQ9.out.kept (by simp [World.setCell]) (fun a ha h0 hlt => Below.heap_setCell _ _ _ _ (by have h7 : wd.heap.size ≤ a.block := (by cases ha; exact (HO6.out.lt _ rfl).1); have h8 := HBL.out; show a.block ≠ w0.heap.size; omega)))
    have HNX := hid (show Boxed2 w #[.int .i64 s.wide, .int .i64 s.high, .int .i64 s.fall, .int .i64 s.a.lo, .int .i64 s.a.hi, .int .i64 s.b.lo, .int .i64 s.b.hi, .int .i64 s.half.lo, .int .i64 s.half.hi, .int .i64 s.peak.lo, .int .i64 s.peak.hi, .slice p n c] 26 #[.int .i64 z.x.lo, .int .i64 z.x.hi, .int .i64 z.y.lo, .int .i64 z.y.hi, .bool z.hail, .int .i64 z.size.lo, .int .i64 z.size.hi] 61 (v6.setCell ⟨w0.heap.size, 11, none⟩ (.slice q9 m9 d9)) ∧ Below w0.heap.size wd (v6.setCell ⟨w0.heap.size, 11, none⟩ (.slice q9 m9 d9)) from ⟨hS.1.step ((Below.refl _ _).setCell (p := ⟨w0.heap.size, 11, none⟩) HLX.out _), hS.2.setCell (p := ⟨w0.heap.size, 11, none⟩) (Nat.le_refl _) _⟩)
    clear hS
    go_simp
    clear k11 f11
    generalize (v6.setCell ⟨w0.heap.size, 11, none⟩ (.slice q9 m9 d9)) = v9 at HXF HKF HNX  ⊢
    refine hK.out _ _ (HNX.out) (fun hS => ?_)
    clear hK K
    try simp only [List.setIfInBounds_toArray, List.set_cons_zero, List.set_cons_succ]
    refine wpAnyH_done (by kernel_rfl) ?_ _
    go_wp2
    go_meet
    case rel => exact ⟨q9, m9, d9, HXF.out, HKF.out, hS.1, Below.trans (HWD.out.mono HBK.out |> fun h => h) hS.2⟩
  case rest =>
    obtain ⟨q9, m9, d9, hx, hkx, hw, hbw⟩ := hcut
    clear HX
    have HX : Hid (BoxIs w0.heap.size #[.int .i64 (plusS s z).wide, .int .i64 (plusS s z).high, .int .i64 (plusS s z).fall, .int .i64 (plusS s z).a.lo, .int .i64 (plusS s z).a.hi, .int .i64 (plusS s z).b.lo, .int .i64 (plusS s z).b.hi, .int .i64 (plusS s z).half.lo, .int .i64 (plusS s z).half.hi, .int .i64 (plusS s z).peak.lo, .int .i64 (plusS s z).peak.hi, .slice q9 m9 d9] wc) := hid hx; have HKX : Hid (CrdsAt wc q9 m9 (plusS s z).cards) := hid hkx; have H2 := hid hw
    clear hx hkx hw hbw
    generalize wc = w2 at HX HKX H2 ⊢
    have e0 := (StoAt.of H2.out.cell1).c0; have e1 := (StoAt.of H2.out.cell1).c1; have e2 := (StoAt.of H2.out.cell1).c2; have e3 := (StoAt.of H2.out.cell1).c3; have e4 := (StoAt.of H2.out.cell1).c4; have e5 := (StoAt.of H2.out.cell1).c5; have e6 := (StoAt.of H2.out.cell1).c6; have e7 := (StoAt.of H2.out.cell1).c7; have e8 := (StoAt.of H2.out.cell1).c8; have e9 := (StoAt.of H2.out.cell1).c9; have e10 := (StoAt.of H2.out.cell1).c10; have e11 := (StoAt.of H2.out.cell1).c11
    go_wp2_with fail
    (with_reducible refine (HRD.out _ ?_).mono ?_)
    · exact H2.out.below
    rintro e w3 ⟨rfl, hb⟩
    have H3 := hid (H2.out.step (hb.mono (by have := H2.out.size; omega)))
    replace HX := hid (HX.out.below hb)
    replace HKX := hid (HKX.out.below hb)
    clear e0 e1 e2 e3 e4 e5 e6 e7 e8 e9 e10 e11 hb
    cases hr1 : readyB s
    · clear hr1
      go_wp2_with fail
      refine (awake_any _).mono ?_
      rintro e w99 ⟨rfl, hb⟩
      go_wp2_with fail
      go_ret
      exact ⟨rfl, H3.out.below.trans (hb.mono H3.out.below.size)⟩
    · have HOK := hid (ready_iff.1 hr1).1
      clear hr1
      have e0 := (HX.out.2 0 (.int .i64 (plusS s z).wide) rfl).1; have e1 := (HX.out.2 1 (.int .i64 (plusS s z).high) rfl).1; have e2 := (HX.out.2 2 (.int .i64 (plusS s z).fall) rfl).1; have e3 := (HX.out.2 3 (.int .i64 (plusS s z).a.lo) rfl).1; have e4 := (HX.out.2 4 (.int .i64 (plusS s z).a.hi) rfl).1; have e5 := (HX.out.2 5 (.int .i64 (plusS s z).b.lo) rfl).1; have e6 := (HX.out.2 6 (.int .i64 (plusS s z).b.hi) rfl).1; have e7 := (HX.out.2 7 (.int .i64 (plusS s z).half.lo) rfl).1; have e8 := (HX.out.2 8 (.int .i64 (plusS s z).half.hi) rfl).1; have e9 := (HX.out.2 9 (.int .i64 (plusS s z).peak.lo) rfl).1; have e10 := (HX.out.2 10 (.int .i64 (plusS s z).peak.hi) rfl).1; have e11 := (HX.out.2 11 (.slice q9 m9 d9) rfl).1
      go_wp2_with fail
      (with_reducible refine (ready_any (plusS s z) q9 m9 d9 _ HKX.out).mono ?_)
      rintro e w4 ⟨rfl, hb⟩
      have H4 := hid (H3.out.step (hb.mono (by have := H3.out.size; omega)))
      replace HX := hid (HX.out.below hb)
      replace HKX := hid (HKX.out.below hb)
      clear hb e0 e1 e2 e3 e4 e5 e6 e7 e8 e9 e10 e11
      cases hr2 : readyB (plusS s z)
      · clear hr2
        go_wp2_with fail
        refine (awake_any _).mono ?_
        rintro e w99 ⟨rfl, hb⟩
        go_wp2_with fail
        go_ret
        exact ⟨rfl, H4.out.below.trans (hb.mono H4.out.below.size)⟩
      · have HOX := hid (ready_iff.1 hr2).1
        clear hr2
        have hn6 : n ≤ 6 := by have := HC.out.1; have := HOK.out.n6; omega
        have hn7 : m9 ≤ 6 := by have := HKX.out.1; have := HOX.out.n6; omega
        have HN : Hid (n ≤ 1000) := hid (by omega)
        have HMX : Hid (m9 ≤ 1000) := hid (by omega)
        have HRC := hid (box_in HOK.out HWV.out.1)
        have q1 := HOK.out.w2; have q2 := HOK.out.w12; have q3 := HOK.out.h1; have q4 := HOK.out.h12
        have e0 := (StoAt.of H4.out.cell1).c0; have e1 := (StoAt.of H4.out.cell1).c1; have e2 := (StoAt.of H4.out.cell1).c2; have e3 := (StoAt.of H4.out.cell1).c3; have e4 := (StoAt.of H4.out.cell1).c4; have e5 := (StoAt.of H4.out.cell1).c5; have e6 := (StoAt.of H4.out.cell1).c6; have e7 := (StoAt.of H4.out.cell1).c7; have e8 := (StoAt.of H4.out.cell1).c8; have e9 := (StoAt.of H4.out.cell1).c9; have e10 := (StoAt.of H4.out.cell1).c10; have e11 := (StoAt.of H4.out.cell1).c11
        go_wp2_with fail
        (with_reducible refine (box_any s p n c wv _ HOK.out HWV.out.1 HWV.out.2).mono ?_)
        rintro e w5 ⟨rfl, hb⟩
        have H5 := hid (H4.out.step (hb.mono (by have := H4.out.size; omega)))
        replace HX := hid (HX.out.below hb)
        replace HKX := hid (HKX.out.below hb)
        clear e0 e1 e2 e3 e4 e5 e6 e7 e8 e9 e10 e11 hb
        obtain ⟨bx, hbx⟩ : ∃ v, boxX s wv = v := ⟨_, rfl⟩
        obtain ⟨bY, hby⟩ : ∃ v, boxY s wv = v := ⟨_, rfl⟩
        rw [hbx, hby] at HRC
        rw [hbx, hby]
        clear hbx hby
        obtain ⟨w6, hw6⟩ : ∃ V, (w5.alloc (.cells #[.int .i64 bx.lo, .int .i64 bx.hi, .int .i64 bY.lo, .int .i64 bY.hi] 64)) = V := ⟨_, rfl⟩
        have H6 : Hid (Boxed2 w #[.int .i64 s.wide, .int .i64 s.high, .int .i64 s.fall, .int .i64 s.a.lo, .int .i64 s.a.hi, .int .i64 s.b.lo, .int .i64 s.b.hi, .int .i64 s.half.lo, .int .i64 s.half.hi, .int .i64 s.peak.lo, .int .i64 s.peak.hi, .slice p n c] 26 #[.int .i64 z.x.lo, .int .i64 z.x.hi, .int .i64 z.y.lo, .int .i64 z.y.hi, .bool z.hail, .int .i64 z.size.lo, .int .i64 z.size.hi] 61 w6) := by show Boxed2 w #[.int .i64 s.wide, .int .i64 s.high, .int .i64 s.fall, .int .i64 s.a.lo, .int .i64 s.a.hi, .int .i64 s.b.lo, .int .i64 s.b.hi, .int .i64 s.half.lo, .int .i64 s.half.hi, .int .i64 s.peak.lo, .int .i64 s.peak.hi, .slice p n c] 26 #[.int .i64 z.x.lo, .int .i64 z.x.hi, .int .i64 z.y.lo, .int .i64 z.y.hi, .bool z.hail, .int .i64 z.size.lo, .int .i64 z.size.hi] 61 w6; rw [← hw6]; exact H5.out.alloc _
        have HR : Hid (BoxIs w5.heap.size #[.int .i64 bx.lo, .int .i64 bx.hi, .int .i64 bY.lo, .int .i64 bY.hi] w6) := by show BoxIs _ _ _; rw [← hw6]; exact BoxIs.start _ _ _
        have HBB : Hid (Below w5.heap.size w5 w6) := hid (by rw [← hw6]; exact (Below.refl _ _).alloc (Nat.le_refl _) _)
        replace HX := hid (HX.out.below HBB.out)
        replace HKX := hid (HKX.out.below HBB.out)
        go_upto_region 6 with fail
        clear hw6 HBB 
        have HRB : Hid ((0 ≤ bx.lo ∧ bx.lo ≤ bx.hi ∧ bx.hi ≤ s.wide - 1) ∧ (0 ≤ bY.lo ∧ bY.lo ≤ bY.hi ∧ bY.hi ≤ s.high - 1)) := hid (by have h := HRC.out; rw [rectB, Bool.and_eq_true, Rng.of_iff, Rng.of_iff] at h; exact h)
        have HFN : Hid (fineS s bx.lo bY.lo = true) := hid (by have h := HRB.out; rw [fineS, Bool.and_eq_true, inB_iff, inB_iff]; omega)
        have HF0 := hid (fault_iff.2 HOK.out); have HFX := hid (fault_iff.2 HOX.out)
        obtain ⟨X, hX⟩ : ∃ X, shortL (leaveF s) s.cards.length = some X := ⟨_, leaveR_law HOK.out⟩
        obtain ⟨Y, hY⟩ : ∃ Y, shortL (leaveF (plusS s z)) (plusS s z).cards.length = some Y := ⟨_, leaveR_law HOX.out⟩
        have HLV := hid hX; have HLW := hid hY; have HLL := hid (plus_leave HOK.out HOX.out hX hY)
        have HXL : Hid (X.length ≤ 12) := hid (by have e := leaveR_law HOK.out; rw [hX] at e; cases e; exact bestL_len _ _)
        clear hX hY
        have e0 := (StoAt.of H6.out.cell1).c0; have e1 := (StoAt.of H6.out.cell1).c1; have e2 := (StoAt.of H6.out.cell1).c2; have e3 := (StoAt.of H6.out.cell1).c3; have e4 := (StoAt.of H6.out.cell1).c4; have e5 := (StoAt.of H6.out.cell1).c5; have e6 := (StoAt.of H6.out.cell1).c6; have e7 := (StoAt.of H6.out.cell1).c7; have e8 := (StoAt.of H6.out.cell1).c8; have e9 := (StoAt.of H6.out.cell1).c9; have e10 := (StoAt.of H6.out.cell1).c10; have e11 := (StoAt.of H6.out.cell1).c11
        go_wp2_with fail
        refine (storm20_any s p n c _ (HC.out.below H6.out.below) HN.out).mono ?_
        rintro e w7 ⟨q1, m1, d1, rfl, hc, hb⟩
        have H7 := hid (H6.out.step (hb.mono (by have := H6.out.size; omega)))
        replace HX := hid (HX.out.below hb)
        replace HKX := hid (HKX.out.below hb)
        replace HR := hid (HR.out.below hb)
        have HK1 := hid hc
        clear e0 e1 e2 e3 e4 e5 e6 e7 e8 e9 e10 e11 hb hc
        go_wp2_with fail
        refine (leave_any s q1 m1 d1 _ HK1.out).mono ?_
        rintro e w8 ⟨ql, kl, dl, rfl, _, hx, hb⟩
        have H8 := hid (H7.out.step (hb.mono (by have := H7.out.size; omega)))
        replace HX := hid (HX.out.below hb)
        replace HKX := hid (HKX.out.below hb)
        replace HR := hid (HR.out.below hb)
        replace HK1 := hid (HK1.out.below hb)
        have HKL := hid (hx HF0.out _ HLV.out).1
        rw [HF0.out]
        clear hb hx
        have e0 := (HX.out.2 0 (.int .i64 (plusS s z).wide) rfl).1; have e1 := (HX.out.2 1 (.int .i64 (plusS s z).high) rfl).1; have e2 := (HX.out.2 2 (.int .i64 (plusS s z).fall) rfl).1; have e3 := (HX.out.2 3 (.int .i64 (plusS s z).a.lo) rfl).1; have e4 := (HX.out.2 4 (.int .i64 (plusS s z).a.hi) rfl).1; have e5 := (HX.out.2 5 (.int .i64 (plusS s z).b.lo) rfl).1; have e6 := (HX.out.2 6 (.int .i64 (plusS s z).b.hi) rfl).1; have e7 := (HX.out.2 7 (.int .i64 (plusS s z).half.lo) rfl).1; have e8 := (HX.out.2 8 (.int .i64 (plusS s z).half.hi) rfl).1; have e9 := (HX.out.2 9 (.int .i64 (plusS s z).peak.lo) rfl).1; have e10 := (HX.out.2 10 (.int .i64 (plusS s z).peak.hi) rfl).1; have e11 := (HX.out.2 11 (.slice q9 m9 d9) rfl).1
        go_wp2_with fail
        refine (storm20_any (plusS s z) q9 m9 d9 _ HKX.out HMX.out).mono ?_
        rintro e w9 ⟨q2, m2, d2, rfl, hc, hb⟩
        have H9 := hid (H8.out.step (hb.mono (by have := H8.out.size; omega)))
        replace HX := hid (HX.out.below hb)
        replace HKX := hid (HKX.out.below hb)
        replace HR := hid (HR.out.below hb)
        have HK2 := hid hc
        clear hb hc e0 e1 e2 e3 e4 e5 e6 e7 e8 e9 e10 e11
        go_wp2_with fail
        refine (leave_any (plusS s z) q2 m2 d2 _ HK2.out).mono ?_
        rintro e w10 ⟨qm, km, dm, rfl, _, hx, hb⟩
        have H10 := hid (H9.out.step (hb.mono (by have := H9.out.size; omega)))
        replace HX := hid (HX.out.below hb)
        replace HKX := hid (HKX.out.below hb)
        replace HR := hid (HR.out.below hb)
        replace HK2 := hid (HK2.out.below hb)
        have HKM := hid (hx HFX.out _ HLW.out).1
        rw [HFX.out]
        clear hb hx
        have hlen := HLL.out
        rw [← HKL.out, ← HKM.out] at hlen
        have HLEN := hid hlen
        have HK9 : Hid (kl ≤ 12) := hid (by rw [HKL.out]; exact HXL.out)
        clear hlen
        obtain ⟨E1, hE1⟩ : ∃ v, sureE s true = v := ⟨_, rfl⟩
        have HE1 := hid hE1
        have HE1S : Hid (E1 = if truthL s = [] then 11 else 0) := hid (by rw [← hE1, sureE, if_pos HF0.out, if_pos rfl])
        clear hE1
        obtain ⟨E2, hE2⟩ : ∃ v, sureE (plusS s z) true = v := ⟨_, rfl⟩
        have HE2 := hid hE2
        have HE2S : Hid (E2 = if truthL (plusS s z) = [] then 11 else 0) := hid (by rw [← hE2, sureE, if_pos HFX.out, if_pos rfl])
        clear hE2
        obtain ⟨aS, haS⟩ : ∃ v, boundS s = v := ⟨_, rfl⟩
        have HaS := hid haS
        clear haS
        obtain ⟨bS, hbS⟩ : ∃ v, boundS (plusS s z) = v := ⟨_, rfl⟩
        have HbS := hid hbS
        clear hbS
        have e0 := (StoAt.of H10.out.cell1).c0; have e1 := (StoAt.of H10.out.cell1).c1; have e2 := (StoAt.of H10.out.cell1).c2; have e3 := (StoAt.of H10.out.cell1).c3; have e4 := (StoAt.of H10.out.cell1).c4; have e5 := (StoAt.of H10.out.cell1).c5; have e6 := (StoAt.of H10.out.cell1).c6; have e7 := (StoAt.of H10.out.cell1).c7; have e8 := (StoAt.of H10.out.cell1).c8; have e9 := (StoAt.of H10.out.cell1).c9; have e10 := (StoAt.of H10.out.cell1).c10; have e11 := (StoAt.of H10.out.cell1).c11
        go_wp2_with fail
        refine (storm20_any s p n c _ (HC.out.below H10.out.below) HN.out).mono ?_
        rintro e w11 ⟨q3, m3, d3, rfl, hc, hb⟩
        have H11 := hid (H10.out.step (hb.mono (by have := H10.out.size; omega)))
        replace HX := hid (HX.out.below hb)
        replace HKX := hid (HKX.out.below hb)
        replace HR := hid (HR.out.below hb)
        have HK3 := hid hc
        clear e0 e1 e2 e3 e4 e5 e6 e7 e8 e9 e10 e11 hb hc
        go_wp2_with fail
        refine (bounds_any s q3 m3 d3 _ HK3.out).mono ?_
        rintro e w12 ⟨qa, ma, da, rfl, _, hb⟩
        have H12 := hid (H11.out.step (hb.mono (by have := H11.out.size; omega)))
        replace HX := hid (HX.out.below hb)
        replace HKX := hid (HKX.out.below hb)
        replace HR := hid (HR.out.below hb)
        replace HK3 := hid (HK3.out.below hb)
        rw [HaS.out, HE1.out]
        clear hb
        obtain ⟨w13, hw13⟩ : ∃ V, (w12.alloc (.cells #[.int .i64 aS.wide, .int .i64 aS.high, .int .i64 aS.fall, .int .i64 aS.a.lo, .int .i64 aS.a.hi, .int .i64 aS.b.lo, .int .i64 aS.b.hi, .int .i64 aS.half.lo, .int .i64 aS.half.hi, .int .i64 aS.peak.lo, .int .i64 aS.peak.hi, .slice qa ma da] 35)) = V := ⟨_, rfl⟩
        have H13 : Hid (Boxed2 w #[.int .i64 s.wide, .int .i64 s.high, .int .i64 s.fall, .int .i64 s.a.lo, .int .i64 s.a.hi, .int .i64 s.b.lo, .int .i64 s.b.hi, .int .i64 s.half.lo, .int .i64 s.half.hi, .int .i64 s.peak.lo, .int .i64 s.peak.hi, .slice p n c] 26 #[.int .i64 z.x.lo, .int .i64 z.x.hi, .int .i64 z.y.lo, .int .i64 z.y.hi, .bool z.hail, .int .i64 z.size.lo, .int .i64 z.size.hi] 61 w13) := by show Boxed2 w #[.int .i64 s.wide, .int .i64 s.high, .int .i64 s.fall, .int .i64 s.a.lo, .int .i64 s.a.hi, .int .i64 s.b.lo, .int .i64 s.b.hi, .int .i64 s.half.lo, .int .i64 s.half.hi, .int .i64 s.peak.lo, .int .i64 s.peak.hi, .slice p n c] 26 #[.int .i64 z.x.lo, .int .i64 z.x.hi, .int .i64 z.y.lo, .int .i64 z.y.hi, .bool z.hail, .int .i64 z.size.lo, .int .i64 z.size.hi] 61 w13; rw [← hw13]; exact H12.out.alloc _
        have HA : Hid (BoxIs w12.heap.size #[.int .i64 aS.wide, .int .i64 aS.high, .int .i64 aS.fall, .int .i64 aS.a.lo, .int .i64 aS.a.hi, .int .i64 aS.b.lo, .int .i64 aS.b.hi, .int .i64 aS.half.lo, .int .i64 aS.half.hi, .int .i64 aS.peak.lo, .int .i64 aS.peak.hi, .slice qa ma da] w13) := by show BoxIs _ _ _; rw [← hw13]; exact BoxIs.start _ _ _
        have HBB : Hid (Below w12.heap.size w12 w13) := hid (by rw [← hw13]; exact (Below.refl _ _).alloc (Nat.le_refl _) _)
        replace HX := hid (HX.out.below HBB.out)
        replace HKX := hid (HKX.out.below HBB.out)
        replace HR := hid (HR.out.below HBB.out)
        go_upto_region 9 with fail
        clear hw13 HBB 
        have e0 := (HX.out.2 0 (.int .i64 (plusS s z).wide) rfl).1; have e1 := (HX.out.2 1 (.int .i64 (plusS s z).high) rfl).1; have e2 := (HX.out.2 2 (.int .i64 (plusS s z).fall) rfl).1; have e3 := (HX.out.2 3 (.int .i64 (plusS s z).a.lo) rfl).1; have e4 := (HX.out.2 4 (.int .i64 (plusS s z).a.hi) rfl).1; have e5 := (HX.out.2 5 (.int .i64 (plusS s z).b.lo) rfl).1; have e6 := (HX.out.2 6 (.int .i64 (plusS s z).b.hi) rfl).1; have e7 := (HX.out.2 7 (.int .i64 (plusS s z).half.lo) rfl).1; have e8 := (HX.out.2 8 (.int .i64 (plusS s z).half.hi) rfl).1; have e9 := (HX.out.2 9 (.int .i64 (plusS s z).peak.lo) rfl).1; have e10 := (HX.out.2 10 (.int .i64 (plusS s z).peak.hi) rfl).1; have e11 := (HX.out.2 11 (.slice q9 m9 d9) rfl).1
        go_wp2_with fail
        refine (storm20_any (plusS s z) q9 m9 d9 _ HKX.out HMX.out).mono ?_
        rintro e w14 ⟨q4, m4, d4, rfl, hc, hb⟩
        have H14 := hid (H13.out.step (hb.mono (by have := H13.out.size; omega)))
        replace HX := hid (HX.out.below hb)
        replace HKX := hid (HKX.out.below hb)
        replace HR := hid (HR.out.below hb)
        replace HA := hid (HA.out.below hb)
        have HK4 := hid hc
        clear hb hc e0 e1 e2 e3 e4 e5 e6 e7 e8 e9 e10 e11
        go_wp2_with fail
        refine (bounds_any (plusS s z) q4 m4 d4 _ HK4.out).mono ?_
        rintro e w15 ⟨qb, mb, db, rfl, _, hb⟩
        have H15 := hid (H14.out.step (hb.mono (by have := H14.out.size; omega)))
        replace HX := hid (HX.out.below hb)
        replace HKX := hid (HKX.out.below hb)
        replace HR := hid (HR.out.below hb)
        replace HA := hid (HA.out.below hb)
        replace HK4 := hid (HK4.out.below hb)
        rw [HbS.out, HE2.out]
        clear hb
        obtain ⟨w16, hw16⟩ : ∃ V, (w15.alloc (.cells #[.int .i64 bS.wide, .int .i64 bS.high, .int .i64 bS.fall, .int .i64 bS.a.lo, .int .i64 bS.a.hi, .int .i64 bS.b.lo, .int .i64 bS.b.hi, .int .i64 bS.half.lo, .int .i64 bS.half.hi, .int .i64 bS.peak.lo, .int .i64 bS.peak.hi, .slice qb mb db] 35)) = V := ⟨_, rfl⟩
        have H16 : Hid (Boxed2 w #[.int .i64 s.wide, .int .i64 s.high, .int .i64 s.fall, .int .i64 s.a.lo, .int .i64 s.a.hi, .int .i64 s.b.lo, .int .i64 s.b.hi, .int .i64 s.half.lo, .int .i64 s.half.hi, .int .i64 s.peak.lo, .int .i64 s.peak.hi, .slice p n c] 26 #[.int .i64 z.x.lo, .int .i64 z.x.hi, .int .i64 z.y.lo, .int .i64 z.y.hi, .bool z.hail, .int .i64 z.size.lo, .int .i64 z.size.hi] 61 w16) := by show Boxed2 w #[.int .i64 s.wide, .int .i64 s.high, .int .i64 s.fall, .int .i64 s.a.lo, .int .i64 s.a.hi, .int .i64 s.b.lo, .int .i64 s.b.hi, .int .i64 s.half.lo, .int .i64 s.half.hi, .int .i64 s.peak.lo, .int .i64 s.peak.hi, .slice p n c] 26 #[.int .i64 z.x.lo, .int .i64 z.x.hi, .int .i64 z.y.lo, .int .i64 z.y.hi, .bool z.hail, .int .i64 z.size.lo, .int .i64 z.size.hi] 61 w16; rw [← hw16]; exact H15.out.alloc _
        have HB : Hid (BoxIs w15.heap.size #[.int .i64 bS.wide, .int .i64 bS.high, .int .i64 bS.fall, .int .i64 bS.a.lo, .int .i64 bS.a.hi, .int .i64 bS.b.lo, .int .i64 bS.b.hi, .int .i64 bS.half.lo, .int .i64 bS.half.hi, .int .i64 bS.peak.lo, .int .i64 bS.peak.hi, .slice qb mb db] w16) := by show BoxIs _ _ _; rw [← hw16]; exact BoxIs.start _ _ _
        have HBB : Hid (Below w15.heap.size w15 w16) := hid (by rw [← hw16]; exact (Below.refl _ _).alloc (Nat.le_refl _) _)
        replace HX := hid (HX.out.below HBB.out)
        replace HKX := hid (HKX.out.below HBB.out)
        replace HR := hid (HR.out.below HBB.out)
        replace HA := hid (HA.out.below HBB.out)
        go_upto_region 10 with fail
        clear hw16 HBB 
        have hc0 := HLEN.out; have hk9 := HK9.out
        have hc1 : ¬ (km : Int) < kl := by omega
        have hc1b : ¬ km < kl := by omega
        have hc2 : ¬ (kl : Int) + 1 < km := by omega
        have hw1 : IntKind.i64.wrap ((kl : Int) + 1) = (kl : Int) + 1 := IntWalk.i64_in _ (by omega)
        by_cases hL : truthL (plusS s z) = []
        · have hE2 : E2 = 11 := by rw [HE2S.out, if_pos hL]
          have hE1 : E1 = 0 ∨ E1 = 11 := by rw [HE1S.out]; split <;> simp
          rw [hE2]
          rcases hE1 with hE1 | hE1
          all_goals rw [hE1]
          all_goals go_wp2_with fail
          all_goals refine (awake_any _).mono ?_
          all_goals rintro e w99 ⟨rfl, hb⟩
          all_goals go_wp2_with fail
          all_goals go_ret
          all_goals exact ⟨rfl, H16.out.below.trans (hb.mono H16.out.below.size)⟩
        · have hE2 : E2 = 0 := by rw [HE2S.out, if_neg hL]
          have hE1 : E1 = 0 := by rw [HE1S.out, if_neg (more_ne hL)]
          rw [hE2, hE1]
          have HNB : Hid (narrowB bS aS = true) := hid (by rw [← HbS.out, ← HaS.out, boundS, boundS, if_pos (HE2.out.trans hE2), if_pos (HE1.out.trans hE1)]; exact more_narrow hL)
          obtain ⟨V1, hV1⟩ : ∃ v, verdV s bx bY = v := ⟨_, rfl⟩
          obtain ⟨V2, hV2⟩ : ∃ v, verdV (plusS s z) bx bY = v := ⟨_, rfl⟩
          have hs1 : sureE s (rectB s bx bY) = 0 := by rw [HRC.out, HE1.out, hE1]
          have hs2 : sureE (plusS s z) (rectB (plusS s z) bx bY) = 0 := by rw [show rectB (plusS s z) bx bY = true from HRC.out, HE2.out, hE2]
          have HVV : Hid (V1 = 3 ∨ V2 = V1) := hid (by rw [← hV1, ← hV2, verdV, verdV, if_pos hs1, if_pos hs2]; exact more_verd hL HRB.out.1.2.1 HRB.out.2.2.1)
          obtain ⟨R1, hR1⟩ : ∃ v, sizesV s bx.lo bY.lo = v := ⟨_, rfl⟩
          obtain ⟨R2, hR2⟩ : ∃ v, sizesV (plusS s z) bx.lo bY.lo = v := ⟨_, rfl⟩
          have hs3 : sureE s (fineS s bx.lo bY.lo) = 0 := by rw [HFN.out, HE1.out, hE1]
          have hs4 : sureE (plusS s z) (fineS (plusS s z) bx.lo bY.lo) = 0 := by rw [show fineS (plusS s z) bx.lo bY.lo = true from HFN.out, HE2.out, hE2]
          have HIN : Hid (inside R2 R1 = true) := hid (by rw [← hR1, ← hR2, sizesV, sizesV, if_pos hs3, if_pos hs4]; exact more_sizes hL)
          have HV1 := hid hV1; have HV2 := hid hV2; have HR1 := hid hR1; have HR2 := hid hR2; have HS1 := hid hs1; have HS2 := hid hs2; have HS3 := hid hs3; have HS4 := hid hs4
          clear hV1 hV2 hR1 hR2 hs1 hs2 hs3 hs4 hE1 hE2 hL
          go_upto_region 14 with fail
          clear hc0 hk9 hc1 hc1b hc2 hw1
          refine wp_region_held_drew (S := fun V => Boxed2 w #[.int .i64 s.wide, .int .i64 s.high, .int .i64 s.fall, .int .i64 s.a.lo, .int .i64 s.a.hi, .int .i64 s.b.lo, .int .i64 s.b.hi, .int .i64 s.half.lo, .int .i64 s.half.hi, .int .i64 s.peak.lo, .int .i64 s.peak.hi, .slice p n c] 26 #[.int .i64 z.x.lo, .int .i64 z.x.hi, .int .i64 z.y.lo, .int .i64 z.y.hi, .bool z.hail, .int .i64 z.size.lo, .int .i64 z.size.hi] 61 V ∧ Below w16.heap.size w16 V) (by kernel_rfl) (⟨H16.out.drew, (Below.refl _ _).drew⟩) (fun hS => ?_)
          simp only [List.size_toArray, List.length_cons, List.length_nil, Nat.reduceAdd, Array.replicate_succ, Array.replicate_zero, List.push_toArray, List.nil_append, List.cons_append]
          refine wpAnyH_take (i := 0) (v := ?_) rfl (by kernel_rfl) (by kernel_rfl) (by kernel_rfl) (fun _ _ _ h => h) (Or.inl ⟨by rfl, fun V hV => ?_⟩) (by assumption) ?_
          rotate_left
          · have e0 := (StoAt.of hV.1.cell1).c0; have e1 := (StoAt.of hV.1.cell1).c1; have e2 := (StoAt.of hV.1.cell1).c2; have e3 := (StoAt.of hV.1.cell1).c3; have e4 := (StoAt.of hV.1.cell1).c4; have e5 := (StoAt.of hV.1.cell1).c5; have e6 := (StoAt.of hV.1.cell1).c6; have e7 := (StoAt.of hV.1.cell1).c7; have e8 := (StoAt.of hV.1.cell1).c8; have e9 := (StoAt.of hV.1.cell1).c9; have e10 := (StoAt.of hV.1.cell1).c10; have e11 := (StoAt.of hV.1.cell1).c11; go_simp
            try with_reducible rfl
          try simp only [Act.put, List.getElem_toArray, List.getElem_cons_zero, List.setIfInBounds_toArray, List.set_cons_zero, List.set_cons_succ]
          refine wpAnyH_take (i := 2) (v := ?_) rfl (by kernel_rfl) (by kernel_rfl) (by kernel_rfl) (fun _ _ _ h => h) (Or.inl ⟨by rfl, fun V hV => ?_⟩) (by assumption) ?_
          rotate_left
          · have hX := HR.out.below hV.2; have d0 := (hX.2 0 (.int .i64 bx.lo) rfl).1; have d1 := (hX.2 1 (.int .i64 bx.hi) rfl).1; have d2 := (hX.2 2 (.int .i64 bY.lo) rfl).1; have d3 := (hX.2 3 (.int .i64 bY.hi) rfl).1; go_simp
            try with_reducible rfl
          try simp only [Act.put, List.getElem_toArray, List.getElem_cons_zero, List.getElem_cons_succ, List.setIfInBounds_toArray, List.set_cons_zero, List.set_cons_succ]
          refine wpAnyH_ready (rs := [1]) (by kernel_rfl) (by simp) ?_
          refine AllReadyH.cons (o := _) rfl (fun K hK => ?_) AllReadyH.nil
          go_simp
          refine (storm20_any s p n c _ (HC.out.below hS.1.below) HN.out).mono ?_
          rintro e s1 ⟨q8, m8, d8, rfl, hc8, hb⟩
          have HQ8 := hid hc8
          clear hc8
          refine hK.out _ _ (⟨hS.1.step (hb.mono (by have := hS.1.size; omega)), hS.2.trans (hb.mono hS.2.size)⟩) (fun hS => ?_)
          clear hK K
          try simp only [List.setIfInBounds_toArray, List.set_cons_zero, List.set_cons_succ]
          refine wpAnyH_ready (rs := [3]) (by kernel_rfl) (by simp) ?_
          refine AllReadyH.cons (o := _) rfl (fun K hK => ?_) AllReadyH.nil
          go_simp
          (with_reducible refine (rect40_any bx bY _).mono ?_)
          rintro e s3 ⟨rfl, hb⟩
          replace HQ8 := hid (HQ8.out.below hb)
          refine hK.out _ _ (⟨hS.1.step (hb.mono (by have := hS.1.size; omega)), hS.2.trans (hb.mono hS.2.size)⟩) (fun hS => ?_)
          clear hK K
          try simp only [List.setIfInBounds_toArray, List.set_cons_zero, List.set_cons_succ]
          refine wpAnyH_ready (rs := [4]) (by kernel_rfl) (by simp) ?_
          refine AllReadyH.cons (o := _) rfl (fun K hK => ?_) AllReadyH.nil
          go_simp
          refine (verdict_any s q8 m8 d8 bx bY _ HQ8.out).mono ?_
          rintro e w17 ⟨rfl, hb⟩
          rw [HV1.out, HS1.out]
          refine hK.out _ _ (⟨hS.1.step (hb.mono (by have := hS.1.size; omega)), hS.2.trans (hb.mono hS.2.size)⟩) (fun hS => ?_)
          clear hK K
          try simp only [List.setIfInBounds_toArray, List.set_cons_zero, List.set_cons_succ]
          refine wpAnyH_take (i := 5) (v := ?_) rfl (by kernel_rfl) (by kernel_rfl) (by kernel_rfl) (fun _ _ _ h => h) (Or.inl ⟨by rfl, fun V hV => ?_⟩) (by assumption) ?_
          rotate_left
          · go_simp
            try with_reducible rfl
          try simp only [Act.put, List.getElem_toArray, List.getElem_cons_zero, List.getElem_cons_succ, List.setIfInBounds_toArray, List.set_cons_zero, List.set_cons_succ]
          refine wpAnyH_take (i := 6) (v := ?_) rfl (by kernel_rfl) (by kernel_rfl) (by kernel_rfl) (fun _ _ _ h => h) (Or.inl ⟨by rfl, fun V hV => ?_⟩) (by assumption) ?_
          rotate_left
          · go_simp
            try with_reducible rfl
          try simp only [Act.put, List.getElem_toArray, List.getElem_cons_zero, List.getElem_cons_succ, List.setIfInBounds_toArray, List.set_cons_zero, List.set_cons_succ]
          refine wpAnyH_take (i := 7) (v := ?_) rfl (by kernel_rfl) (by kernel_rfl) (by kernel_rfl) (fun _ _ _ h => h) (Or.inl ⟨by rfl, fun V hV => ?_⟩) (by assumption) ?_
          rotate_left
          · go_simp
            try with_reducible rfl
          try simp only [Act.put, List.getElem_toArray, List.getElem_cons_zero, List.getElem_cons_succ, List.setIfInBounds_toArray, List.set_cons_zero, List.set_cons_succ]
          refine wpAnyH_take (i := 8) (v := ?_) rfl (by kernel_rfl) (by kernel_rfl) (by kernel_rfl) (fun _ _ _ h => h) (Or.inl ⟨by rfl, fun V hV => ?_⟩) (by assumption) ?_
          rotate_left
          · go_simp
            try with_reducible rfl
          try simp only [Act.put, List.getElem_toArray, List.getElem_cons_zero, List.getElem_cons_succ, List.setIfInBounds_toArray, List.set_cons_zero, List.set_cons_succ]
          refine wpAnyH_take (i := 9) (v := ?_) rfl (by kernel_rfl) (by kernel_rfl) (by kernel_rfl) (fun _ _ _ h => h) (Or.inl ⟨by rfl, fun V hV => ?_⟩) (by assumption) ?_
          rotate_left
          · go_simp
            try with_reducible rfl
          try simp only [Act.put, List.getElem_toArray, List.getElem_cons_zero, List.getElem_cons_succ, List.setIfInBounds_toArray, List.set_cons_zero, List.set_cons_succ]
          refine wpAnyH_done (by kernel_rfl) ?_ _
          have H17 := hid hS.1
          replace HX := hid (HX.out.below hS.2)
          replace HKX := hid (HKX.out.below hS.2)
          replace HR := hid (HR.out.below hS.2)
          replace HA := hid (HA.out.below hS.2)
          replace HB := hid (HB.out.below hS.2)
          clear hS
          go_upto_region 15 with fail
          refine wp_region_held_drew (S := fun V => Boxed2 w #[.int .i64 s.wide, .int .i64 s.high, .int .i64 s.fall, .int .i64 s.a.lo, .int .i64 s.a.hi, .int .i64 s.b.lo, .int .i64 s.b.hi, .int .i64 s.half.lo, .int .i64 s.half.hi, .int .i64 s.peak.lo, .int .i64 s.peak.hi, .slice p n c] 26 #[.int .i64 z.x.lo, .int .i64 z.x.hi, .int .i64 z.y.lo, .int .i64 z.y.hi, .bool z.hail, .int .i64 z.size.lo, .int .i64 z.size.hi] 61 V ∧ Below w17.heap.size w17 V) (by kernel_rfl) (⟨H17.out.drew, (Below.refl _ _).drew⟩) (fun hS => ?_)
          simp only [List.size_toArray, List.length_cons, List.length_nil, Nat.reduceAdd, Array.replicate_succ, Array.replicate_zero, List.push_toArray, List.nil_append, List.cons_append]
          refine wpAnyH_take (i := 0) (v := ?_) rfl (by kernel_rfl) (by kernel_rfl) (by kernel_rfl) (fun _ _ _ h => h) (Or.inl ⟨by rfl, fun V hV => ?_⟩) (by assumption) ?_
          rotate_left
          · have hX := HX.out.below hV.2; have e0 := (hX.2 0 (.int .i64 (plusS s z).wide) rfl).1; have e1 := (hX.2 1 (.int .i64 (plusS s z).high) rfl).1; have e2 := (hX.2 2 (.int .i64 (plusS s z).fall) rfl).1; have e3 := (hX.2 3 (.int .i64 (plusS s z).a.lo) rfl).1; have e4 := (hX.2 4 (.int .i64 (plusS s z).a.hi) rfl).1; have e5 := (hX.2 5 (.int .i64 (plusS s z).b.lo) rfl).1; have e6 := (hX.2 6 (.int .i64 (plusS s z).b.hi) rfl).1; have e7 := (hX.2 7 (.int .i64 (plusS s z).half.lo) rfl).1; have e8 := (hX.2 8 (.int .i64 (plusS s z).half.hi) rfl).1; have e9 := (hX.2 9 (.int .i64 (plusS s z).peak.lo) rfl).1; have e10 := (hX.2 10 (.int .i64 (plusS s z).peak.hi) rfl).1; have e11 := (hX.2 11 (.slice q9 m9 d9) rfl).1; go_simp
            try with_reducible rfl
          try simp only [Act.put, List.getElem_toArray, List.getElem_cons_zero, List.setIfInBounds_toArray, List.set_cons_zero, List.set_cons_succ]
          refine wpAnyH_take (i := 2) (v := ?_) rfl (by kernel_rfl) (by kernel_rfl) (by kernel_rfl) (fun _ _ _ h => h) (Or.inl ⟨by rfl, fun V hV => ?_⟩) (by assumption) ?_
          rotate_left
          · have hX := HR.out.below hV.2; have d0 := (hX.2 0 (.int .i64 bx.lo) rfl).1; have d1 := (hX.2 1 (.int .i64 bx.hi) rfl).1; have d2 := (hX.2 2 (.int .i64 bY.lo) rfl).1; have d3 := (hX.2 3 (.int .i64 bY.hi) rfl).1; go_simp
            try with_reducible rfl
          try simp only [Act.put, List.getElem_toArray, List.getElem_cons_zero, List.getElem_cons_succ, List.setIfInBounds_toArray, List.set_cons_zero, List.set_cons_succ]
          refine wpAnyH_ready (rs := [1]) (by kernel_rfl) (by simp) ?_
          refine AllReadyH.cons (o := _) rfl (fun K hK => ?_) AllReadyH.nil
          go_simp
          refine (storm20_any (plusS s z) q9 m9 d9 _ (HKX.out.below hS.2) HMX.out).mono ?_
          rintro e s1 ⟨q8, m8, d8, rfl, hc8, hb⟩
          have HQ8 := hid hc8
          clear hc8
          refine hK.out _ _ (⟨hS.1.step (hb.mono (by have := hS.1.size; omega)), hS.2.trans (hb.mono hS.2.size)⟩) (fun hS => ?_)
          clear hK K
          try simp only [List.setIfInBounds_toArray, List.set_cons_zero, List.set_cons_succ]
          refine wpAnyH_ready (rs := [3]) (by kernel_rfl) (by simp) ?_
          refine AllReadyH.cons (o := _) rfl (fun K hK => ?_) AllReadyH.nil
          go_simp
          (with_reducible refine (rect40_any bx bY _).mono ?_)
          rintro e s3 ⟨rfl, hb⟩
          replace HQ8 := hid (HQ8.out.below hb)
          refine hK.out _ _ (⟨hS.1.step (hb.mono (by have := hS.1.size; omega)), hS.2.trans (hb.mono hS.2.size)⟩) (fun hS => ?_)
          clear hK K
          try simp only [List.setIfInBounds_toArray, List.set_cons_zero, List.set_cons_succ]
          refine wpAnyH_ready (rs := [4]) (by kernel_rfl) (by simp) ?_
          refine AllReadyH.cons (o := _) rfl (fun K hK => ?_) AllReadyH.nil
          go_simp
          refine (verdict_any (plusS s z) q8 m8 d8 bx bY _ HQ8.out).mono ?_
          rintro e w18 ⟨rfl, hb⟩
          rw [HV2.out, HS2.out]
          refine hK.out _ _ (⟨hS.1.step (hb.mono (by have := hS.1.size; omega)), hS.2.trans (hb.mono hS.2.size)⟩) (fun hS => ?_)
          clear hK K
          try simp only [List.setIfInBounds_toArray, List.set_cons_zero, List.set_cons_succ]
          refine wpAnyH_take (i := 5) (v := ?_) rfl (by kernel_rfl) (by kernel_rfl) (by kernel_rfl) (fun _ _ _ h => h) (Or.inl ⟨by rfl, fun V hV => ?_⟩) (by assumption) ?_
          rotate_left
          · go_simp
            try with_reducible rfl
          try simp only [Act.put, List.getElem_toArray, List.getElem_cons_zero, List.getElem_cons_succ, List.setIfInBounds_toArray, List.set_cons_zero, List.set_cons_succ]
          refine wpAnyH_take (i := 6) (v := ?_) rfl (by kernel_rfl) (by kernel_rfl) (by kernel_rfl) (fun _ _ _ h => h) (Or.inl ⟨by rfl, fun V hV => ?_⟩) (by assumption) ?_
          rotate_left
          · go_simp
            try with_reducible rfl
          try simp only [Act.put, List.getElem_toArray, List.getElem_cons_zero, List.getElem_cons_succ, List.setIfInBounds_toArray, List.set_cons_zero, List.set_cons_succ]
          refine wpAnyH_take (i := 7) (v := ?_) rfl (by kernel_rfl) (by kernel_rfl) (by kernel_rfl) (fun _ _ _ h => h) (Or.inl ⟨by rfl, fun V hV => ?_⟩) (by assumption) ?_
          rotate_left
          · go_simp
            try with_reducible rfl
          try simp only [Act.put, List.getElem_toArray, List.getElem_cons_zero, List.getElem_cons_succ, List.setIfInBounds_toArray, List.set_cons_zero, List.set_cons_succ]
          refine wpAnyH_take (i := 8) (v := ?_) rfl (by kernel_rfl) (by kernel_rfl) (by kernel_rfl) (fun _ _ _ h => h) (Or.inl ⟨by rfl, fun V hV => ?_⟩) (by assumption) ?_
          rotate_left
          · go_simp
            try with_reducible rfl
          try simp only [Act.put, List.getElem_toArray, List.getElem_cons_zero, List.getElem_cons_succ, List.setIfInBounds_toArray, List.set_cons_zero, List.set_cons_succ]
          refine wpAnyH_take (i := 9) (v := ?_) rfl (by kernel_rfl) (by kernel_rfl) (by kernel_rfl) (fun _ _ _ h => h) (Or.inl ⟨by rfl, fun V hV => ?_⟩) (by assumption) ?_
          rotate_left
          · go_simp
            try with_reducible rfl
          try simp only [Act.put, List.getElem_toArray, List.getElem_cons_zero, List.getElem_cons_succ, List.setIfInBounds_toArray, List.set_cons_zero, List.set_cons_succ]
          refine wpAnyH_done (by kernel_rfl) ?_ _
          have H18 := hid hS.1
          replace HX := hid (HX.out.below hS.2)
          replace HKX := hid (HKX.out.below hS.2)
          replace HR := hid (HR.out.below hS.2)
          replace HA := hid (HA.out.below hS.2)
          replace HB := hid (HB.out.below hS.2)
          clear hS
          have HM9 := HN
          go_upto_region 16 with fail
          go_cut [21, 22] from 25 (fun a9 b9 wr => ∃ bt, a9 = .pointer (some ⟨bt, 0, none⟩) ∧ b9 = .int .i64 0 ∧ BoxIs bt #[.int .i64 R1.lo, .int .i64 R1.hi] wr ∧ Boxed2 w #[.int .i64 s.wide, .int .i64 s.high, .int .i64 s.fall, .int .i64 s.a.lo, .int .i64 s.a.hi, .int .i64 s.b.lo, .int .i64 s.b.hi, .int .i64 s.half.lo, .int .i64 s.half.hi, .int .i64 s.peak.lo, .int .i64 s.peak.hi, .slice p n c] 26 #[.int .i64 z.x.lo, .int .i64 z.x.hi, .int .i64 z.y.lo, .int .i64 z.y.hi, .bool z.hail, .int .i64 z.size.lo, .int .i64 z.size.hi] 61 wr ∧ Below w18.heap.size w18 wr)
          case first =>
            obtain ⟨wd, hwd⟩ : ∃ V, w18.drew = V := ⟨_, rfl⟩
            have HD := hid H18.out.drew
            replace HX := hid (HX.out.below (Below.refl _ _).drew)
            replace HKX := hid (HKX.out.below (Below.refl _ _).drew)
            replace HR := hid (HR.out.below (Below.refl _ _).drew)
            replace HA := hid (HA.out.below (Below.refl _ _).drew)
            replace HB := hid (HB.out.below (Below.refl _ _).drew)
            rw [hwd] at HD HX HKX HR HA HB
            have HWD : Hid (Below w18.heap.size w18 wd) := hid (by rw [← hwd]; exact (Below.refl _ _).drew)
            refine wp_region_held_drew (S := fun V => Boxed2 w #[.int .i64 s.wide, .int .i64 s.high, .int .i64 s.fall, .int .i64 s.a.lo, .int .i64 s.a.hi, .int .i64 s.b.lo, .int .i64 s.b.hi, .int .i64 s.half.lo, .int .i64 s.half.hi, .int .i64 s.peak.lo, .int .i64 s.peak.hi, .slice p n c] 26 #[.int .i64 z.x.lo, .int .i64 z.x.hi, .int .i64 z.y.lo, .int .i64 z.y.hi, .bool z.hail, .int .i64 z.size.lo, .int .i64 z.size.hi] 61 V ∧ Below wd.heap.size wd V) (by kernel_rfl) (by rw [hwd]; exact ⟨HD.out, Below.refl _ _⟩) (fun hS => ?_)
            rw [hwd] at hS ⊢
            clear hwd
            simp only [List.size_toArray, List.length_cons, List.length_nil, Nat.reduceAdd, Array.replicate_succ, Array.replicate_zero, List.push_toArray, List.nil_append, List.cons_append]
            refine wpAnyH_take (i := 0) (v := ?_) rfl (by kernel_rfl) (by kernel_rfl) (by kernel_rfl) (fun _ _ _ h => h) (Or.inl ⟨by rfl, fun V hV => ?_⟩) (by assumption) ?_
            rotate_left
            · have e0 := (StoAt.of hV.1.cell1).c0; have e1 := (StoAt.of hV.1.cell1).c1; have e2 := (StoAt.of hV.1.cell1).c2; have e3 := (StoAt.of hV.1.cell1).c3; have e4 := (StoAt.of hV.1.cell1).c4; have e5 := (StoAt.of hV.1.cell1).c5; have e6 := (StoAt.of hV.1.cell1).c6; have e7 := (StoAt.of hV.1.cell1).c7; have e8 := (StoAt.of hV.1.cell1).c8; have e9 := (StoAt.of hV.1.cell1).c9; have e10 := (StoAt.of hV.1.cell1).c10; have e11 := (StoAt.of hV.1.cell1).c11; go_simp
              try with_reducible rfl
            try simp only [Act.put, List.getElem_toArray, List.getElem_cons_zero, List.setIfInBounds_toArray, List.set_cons_zero, List.set_cons_succ]
            refine wpAnyH_take (i := 2) (v := ?_) rfl (by kernel_rfl) (by kernel_rfl) (by kernel_rfl) (fun _ _ _ h => h) (Or.inl ⟨by rfl, fun V hV => ?_⟩) (by assumption) ?_
            rotate_left
            · go_simp
              try with_reducible rfl
            try simp only [Act.put, List.getElem_toArray, List.getElem_cons_zero, List.getElem_cons_succ, List.setIfInBounds_toArray, List.set_cons_zero, List.set_cons_succ]
            refine wpAnyH_take (i := 3) (v := ?_) rfl (by kernel_rfl) (by kernel_rfl) (by kernel_rfl) (fun _ _ _ h => h) (Or.inl ⟨by rfl, fun V hV => ?_⟩) (by assumption) ?_
            rotate_left
            · go_simp
              try with_reducible rfl
            try simp only [Act.put, List.getElem_toArray, List.getElem_cons_zero, List.getElem_cons_succ, List.setIfInBounds_toArray, List.set_cons_zero, List.set_cons_succ]
            refine wpAnyH_take (i := 4) (v := ?_) rfl (by kernel_rfl) (by kernel_rfl) (by kernel_rfl) (fun _ _ _ h => h) (Or.inl ⟨by rfl, fun V hV => ?_⟩) (by assumption) ?_
            rotate_left
            · have hX := HR.out.below hV.2; have d0 := (hX.2 0 (.int .i64 bx.lo) rfl).1; have d1 := (hX.2 1 (.int .i64 bx.hi) rfl).1; have d2 := (hX.2 2 (.int .i64 bY.lo) rfl).1; have d3 := (hX.2 3 (.int .i64 bY.hi) rfl).1; go_simp
              try with_reducible rfl
            try simp only [Act.put, List.getElem_toArray, List.getElem_cons_zero, List.getElem_cons_succ, List.setIfInBounds_toArray, List.set_cons_zero, List.set_cons_succ]
            refine wpAnyH_take (i := 5) (v := ?_) rfl (by kernel_rfl) (by kernel_rfl) (by kernel_rfl) (fun _ _ _ h => h) (Or.inl ⟨by rfl, fun V hV => ?_⟩) (by assumption) ?_
            rotate_left
            · go_simp
              try with_reducible rfl
            try simp only [Act.put, List.getElem_toArray, List.getElem_cons_zero, List.getElem_cons_succ, List.setIfInBounds_toArray, List.set_cons_zero, List.set_cons_succ]
            refine wpAnyH_take (i := 6) (v := ?_) rfl (by kernel_rfl) (by kernel_rfl) (by kernel_rfl) (fun _ _ _ h => h) (Or.inl ⟨by rfl, fun V hV => ?_⟩) (by assumption) ?_
            rotate_left
            · go_simp
              try with_reducible rfl
            try simp only [Act.put, List.getElem_toArray, List.getElem_cons_zero, List.getElem_cons_succ, List.setIfInBounds_toArray, List.set_cons_zero, List.set_cons_succ]
            refine wpAnyH_take (i := 7) (v := ?_) rfl (by kernel_rfl) (by kernel_rfl) (by kernel_rfl) (fun _ _ _ h => h) (Or.inl ⟨by rfl, fun V hV => ?_⟩) (by assumption) ?_
            rotate_left
            · have hX := HR.out.below hV.2; have d0 := (hX.2 0 (.int .i64 bx.lo) rfl).1; have d1 := (hX.2 1 (.int .i64 bx.hi) rfl).1; have d2 := (hX.2 2 (.int .i64 bY.lo) rfl).1; have d3 := (hX.2 3 (.int .i64 bY.hi) rfl).1; go_simp
              try with_reducible rfl
            try simp only [Act.put, List.getElem_toArray, List.getElem_cons_zero, List.getElem_cons_succ, List.setIfInBounds_toArray, List.set_cons_zero, List.set_cons_succ]
            refine wpAnyH_ready (rs := [1, 12]) (by kernel_rfl) (by simp) ?_
            refine AllReadyH.cons (o := _) rfl (fun K hK => ?_) ?_
            · skip
              go_simp
              refine (storm20_any s p n c _ (HC.out.below hS.1.below) HM9.out).mono ?_
              rintro e v1 ⟨q8, m8, d8, rfl, hc8, hb⟩
              have HQ8 := hid hc8
              clear hc8
              refine hK.out _ _ (⟨hS.1.step (hb.mono (by have := hS.1.size; omega)), hS.2.trans (hb.mono hS.2.size)⟩) (fun hS => ?_)
              clear hK K
              try simp only [List.setIfInBounds_toArray, List.set_cons_zero, List.set_cons_succ]
              refine wpAnyH_ready (rs := [8, 12]) (by kernel_rfl) (by simp) ?_
              refine AllReadyH.cons (o := _) rfl (fun K hK => ?_) ?_
              · skip
                go_simp
                refine (sizes_any s q8 m8 d8 bx.lo bY.lo _ HQ8.out).mono ?_
                rintro e v8 ⟨rfl, hb⟩
                rw [HR1.out, HS3.out]
                refine hK.out _ _ (⟨hS.1.step (hb.mono (by have := hS.1.size; omega)), hS.2.trans (hb.mono hS.2.size)⟩) (fun hS => ?_)
                clear hK K
                try simp only [List.setIfInBounds_toArray, List.set_cons_zero, List.set_cons_succ]
                refine wpAnyH_take (i := 9) (v := ?_) rfl (by kernel_rfl) (by kernel_rfl) (by kernel_rfl) (fun _ _ _ h => h) (Or.inl ⟨by rfl, fun V hV => ?_⟩) (by assumption) ?_
                rotate_left
                · go_simp
                  try with_reducible rfl
                try simp only [Act.put, List.getElem_toArray, List.getElem_cons_zero, List.getElem_cons_succ, List.setIfInBounds_toArray, List.set_cons_zero, List.set_cons_succ]
                refine wpAnyH_take (i := 10) (v := ?_) rfl (by kernel_rfl) (by kernel_rfl) (by kernel_rfl) (fun _ _ _ h => h) (Or.inl ⟨by rfl, fun V hV => ?_⟩) (by assumption) ?_
                rotate_left
                · go_simp
                  try with_reducible rfl
                try simp only [Act.put, List.getElem_toArray, List.getElem_cons_zero, List.getElem_cons_succ, List.setIfInBounds_toArray, List.set_cons_zero, List.set_cons_succ]
                refine wpAnyH_take (i := 11) (v := ?_) rfl (by kernel_rfl) (by kernel_rfl) (by kernel_rfl) (fun _ _ _ h => h) (Or.inl ⟨by rfl, fun V hV => ?_⟩) (by assumption) ?_
                rotate_left
                · go_simp
                  try with_reducible rfl
                try simp only [Act.put, List.getElem_toArray, List.getElem_cons_zero, List.getElem_cons_succ, List.setIfInBounds_toArray, List.set_cons_zero, List.set_cons_succ]
                refine wpAnyH_ready (rs := [12]) (by kernel_rfl) (by simp) ?_
                refine AllReadyH.cons (o := _) rfl (fun K hK => ?_) AllReadyH.nil
                obtain ⟨v12, hv12⟩ : ∃ V, v8.alloc (.cells #[.int .i64 0, .int .i64 0] 29) = V := ⟨_, rfl⟩
                have hb : Below v8.heap.size v8 v12 := by rw [← hv12]; exact (Below.refl _ _).alloc (Nat.le_refl _) _
                have HN : Hid (BoxIs v8.heap.size #[.int .i64 0, .int .i64 0] v12) := by show BoxIs _ _ _; rw [← hv12]; exact BoxIs.start _ _ _
                have HL : Hid (wd.heap.size ≤ v8.heap.size) := hid hS.2.size
                go_simp
                refine hK.out _ _ (⟨hS.1.step (hb.mono (by have := hS.1.size; omega)), hS.2.trans (hb.mono hS.2.size)⟩) (fun hS => ?_)
                clear hK K
                try simp only [List.setIfInBounds_toArray, List.set_cons_zero, List.set_cons_succ]
                refine wpAnyH_ready (rs := [13]) (by kernel_rfl) (by simp) ?_
                refine AllReadyH.cons (o := _) rfl (fun K hK => ?_) AllReadyH.nil
                have k0 := (HN.out.2 0 (.int .i64 0) rfl).1; have f0 := (HN.out.2 0 (.int .i64 0) rfl).2
                have k1 := (HN.out.2 1 (.int .i64 0) rfl).1; have f1 := (HN.out.2 1 (.int .i64 0) rfl).2
                have HP : Hid (BoxIs v8.heap.size #[.int .i64 R1.lo, .int .i64 R1.hi] ((v12.setCell ⟨v8.heap.size, 0, none⟩ (.int .i64 R1.lo)).setCell ⟨v8.heap.size, 1, none⟩ (.int .i64 R1.hi))) := hid ((HN.out.put (j := 0) (.int .i64 R1.lo)).put (j := 1) (.int .i64 R1.hi))
                have HSW := hid (hS.1.step ((((Below.refl wd.heap.size v12).setCell (p := ⟨v8.heap.size, 0, none⟩) HL.out (.int .i64 R1.lo)).setCell (p := ⟨v8.heap.size, 1, none⟩) HL.out (.int .i64 R1.hi)).mono (by have := HD.out.size; exact this)))
                have HSB := hid (hS.2.trans (((Below.refl wd.heap.size v12).setCell (p := ⟨v8.heap.size, 0, none⟩) HL.out (.int .i64 R1.lo)).setCell (p := ⟨v8.heap.size, 1, none⟩) HL.out (.int .i64 R1.hi)))
                clear hS
                go_simp
                clear k0 f0 k1 f1
                generalize ((v12.setCell ⟨v8.heap.size, 0, none⟩ (.int .i64 R1.lo)).setCell ⟨v8.heap.size, 1, none⟩ (.int .i64 R1.hi)) = V9 at HP HSW HSB ⊢
                replace HN := HP
                refine hK.out _ _ (⟨HSW.out, HSB.out⟩) (fun hS => ?_)
                clear hK K
                try simp only [List.setIfInBounds_toArray, List.set_cons_zero, List.set_cons_succ]
                refine wpAnyH_take (i := 14) (v := ?_) rfl (by kernel_rfl) (by kernel_rfl) (by kernel_rfl) (fun _ _ _ h => h) (Or.inl ⟨by rfl, fun V hV => ?_⟩) (by assumption) ?_
                rotate_left
                · go_simp
                  try with_reducible rfl
                try simp only [Act.put, List.getElem_toArray, List.getElem_cons_zero, List.getElem_cons_succ, List.setIfInBounds_toArray, List.set_cons_zero, List.set_cons_succ]
                refine wpAnyH_done (by kernel_rfl) ?_ _
                go_wp2
                go_meet
                case rel => exact ⟨_, rfl, rfl, HN.out, hS.1, HWD.out.trans (hS.2.mono HWD.out.size)⟩
              refine AllReadyH.cons (o := _) rfl (fun K hK => ?_) AllReadyH.nil
              obtain ⟨v12, hv12⟩ : ∃ V, v1.alloc (.cells #[.int .i64 0, .int .i64 0] 29) = V := ⟨_, rfl⟩
              have hb : Below v1.heap.size v1 v12 := by rw [← hv12]; exact (Below.refl _ _).alloc (Nat.le_refl _) _
              have HN : Hid (BoxIs v1.heap.size #[.int .i64 0, .int .i64 0] v12) := by show BoxIs _ _ _; rw [← hv12]; exact BoxIs.start _ _ _
              have HL : Hid (wd.heap.size ≤ v1.heap.size) := hid hS.2.size
              replace HQ8 := hid (HQ8.out.below hb)
              go_simp
              refine hK.out _ _ (⟨hS.1.step (hb.mono (by have := hS.1.size; omega)), hS.2.trans (hb.mono hS.2.size)⟩) (fun hS => ?_)
              clear hK K
              try simp only [List.setIfInBounds_toArray, List.set_cons_zero, List.set_cons_succ]
              refine wpAnyH_ready (rs := [8]) (by kernel_rfl) (by simp) ?_
              refine AllReadyH.cons (o := _) rfl (fun K hK => ?_) AllReadyH.nil
              go_simp
              refine (sizes_any s q8 m8 d8 bx.lo bY.lo _ HQ8.out).mono ?_
              rintro e v8 ⟨rfl, hb⟩
              rw [HR1.out, HS3.out]
              replace HN := hid (HN.out.below hb)
              refine hK.out _ _ (⟨hS.1.step (hb.mono (by have := hS.1.size; omega)), hS.2.trans (hb.mono hS.2.size)⟩) (fun hS => ?_)
              clear hK K
              try simp only [List.setIfInBounds_toArray, List.set_cons_zero, List.set_cons_succ]
              refine wpAnyH_take (i := 9) (v := ?_) rfl (by kernel_rfl) (by kernel_rfl) (by kernel_rfl) (fun _ _ _ h => h) (Or.inl ⟨by rfl, fun V hV => ?_⟩) (by assumption) ?_
              rotate_left
              · go_simp
                try with_reducible rfl
              try simp only [Act.put, List.getElem_toArray, List.getElem_cons_zero, List.getElem_cons_succ, List.setIfInBounds_toArray, List.set_cons_zero, List.set_cons_succ]
              refine wpAnyH_take (i := 10) (v := ?_) rfl (by kernel_rfl) (by kernel_rfl) (by kernel_rfl) (fun _ _ _ h => h) (Or.inl ⟨by rfl, fun V hV => ?_⟩) (by assumption) ?_
              rotate_left
              · go_simp
                try with_reducible rfl
              try simp only [Act.put, List.getElem_toArray, List.getElem_cons_zero, List.getElem_cons_succ, List.setIfInBounds_toArray, List.set_cons_zero, List.set_cons_succ]
              refine wpAnyH_take (i := 11) (v := ?_) rfl (by kernel_rfl) (by kernel_rfl) (by kernel_rfl) (fun _ _ _ h => h) (Or.inl ⟨by rfl, fun V hV => ?_⟩) (by assumption) ?_
              rotate_left
              · go_simp
                try with_reducible rfl
              try simp only [Act.put, List.getElem_toArray, List.getElem_cons_zero, List.getElem_cons_succ, List.setIfInBounds_toArray, List.set_cons_zero, List.set_cons_succ]
              refine wpAnyH_ready (rs := [13]) (by kernel_rfl) (by simp) ?_
              refine AllReadyH.cons (o := _) rfl (fun K hK => ?_) AllReadyH.nil
              have k0 := (HN.out.2 0 (.int .i64 0) rfl).1; have f0 := (HN.out.2 0 (.int .i64 0) rfl).2
              have k1 := (HN.out.2 1 (.int .i64 0) rfl).1; have f1 := (HN.out.2 1 (.int .i64 0) rfl).2
              have HP : Hid (BoxIs v1.heap.size #[.int .i64 R1.lo, .int .i64 R1.hi] ((v8.setCell ⟨v1.heap.size, 0, none⟩ (.int .i64 R1.lo)).setCell ⟨v1.heap.size, 1, none⟩ (.int .i64 R1.hi))) := hid ((HN.out.put (j := 0) (.int .i64 R1.lo)).put (j := 1) (.int .i64 R1.hi))
              have HSW := hid (hS.1.step ((((Below.refl wd.heap.size v8).setCell (p := ⟨v1.heap.size, 0, none⟩) HL.out (.int .i64 R1.lo)).setCell (p := ⟨v1.heap.size, 1, none⟩) HL.out (.int .i64 R1.hi)).mono (by have := HD.out.size; exact this)))
              have HSB := hid (hS.2.trans (((Below.refl wd.heap.size v8).setCell (p := ⟨v1.heap.size, 0, none⟩) HL.out (.int .i64 R1.lo)).setCell (p := ⟨v1.heap.size, 1, none⟩) HL.out (.int .i64 R1.hi)))
              clear hS
              go_simp
              clear k0 f0 k1 f1
              generalize ((v8.setCell ⟨v1.heap.size, 0, none⟩ (.int .i64 R1.lo)).setCell ⟨v1.heap.size, 1, none⟩ (.int .i64 R1.hi)) = V9 at HP HSW HSB ⊢
              replace HN := HP
              refine hK.out _ _ (⟨HSW.out, HSB.out⟩) (fun hS => ?_)
              clear hK K
              try simp only [List.setIfInBounds_toArray, List.set_cons_zero, List.set_cons_succ]
              refine wpAnyH_take (i := 14) (v := ?_) rfl (by kernel_rfl) (by kernel_rfl) (by kernel_rfl) (fun _ _ _ h => h) (Or.inl ⟨by rfl, fun V hV => ?_⟩) (by assumption) ?_
              rotate_left
              · go_simp
                try with_reducible rfl
              try simp only [Act.put, List.getElem_toArray, List.getElem_cons_zero, List.getElem_cons_succ, List.setIfInBounds_toArray, List.set_cons_zero, List.set_cons_succ]
              refine wpAnyH_done (by kernel_rfl) ?_ _
              go_wp2
              go_meet
              case rel => exact ⟨_, rfl, rfl, HN.out, hS.1, HWD.out.trans (hS.2.mono HWD.out.size)⟩
            refine AllReadyH.cons (o := _) rfl (fun K hK => ?_) AllReadyH.nil
            obtain ⟨v12, hv12⟩ : ∃ V, wd.alloc (.cells #[.int .i64 0, .int .i64 0] 29) = V := ⟨_, rfl⟩
            have hb : Below wd.heap.size wd v12 := by rw [← hv12]; exact (Below.refl _ _).alloc (Nat.le_refl _) _
            have HN : Hid (BoxIs wd.heap.size #[.int .i64 0, .int .i64 0] v12) := by show BoxIs _ _ _; rw [← hv12]; exact BoxIs.start _ _ _
            have HL : Hid (wd.heap.size ≤ wd.heap.size) := hid hS.2.size
            go_simp
            refine hK.out _ _ (⟨hS.1.step (hb.mono (by have := hS.1.size; omega)), hS.2.trans (hb.mono hS.2.size)⟩) (fun hS => ?_)
            clear hK K
            try simp only [List.setIfInBounds_toArray, List.set_cons_zero, List.set_cons_succ]
            refine wpAnyH_ready (rs := [1]) (by kernel_rfl) (by simp) ?_
            refine AllReadyH.cons (o := _) rfl (fun K hK => ?_) AllReadyH.nil
            go_simp
            refine (storm20_any s p n c _ (HC.out.below hS.1.below) HM9.out).mono ?_
            rintro e v1 ⟨q8, m8, d8, rfl, hc8, hb⟩
            have HQ8 := hid hc8
            clear hc8
            replace HN := hid (HN.out.below hb)
            refine hK.out _ _ (⟨hS.1.step (hb.mono (by have := hS.1.size; omega)), hS.2.trans (hb.mono hS.2.size)⟩) (fun hS => ?_)
            clear hK K
            try simp only [List.setIfInBounds_toArray, List.set_cons_zero, List.set_cons_succ]
            refine wpAnyH_ready (rs := [8]) (by kernel_rfl) (by simp) ?_
            refine AllReadyH.cons (o := _) rfl (fun K hK => ?_) AllReadyH.nil
            go_simp
            refine (sizes_any s q8 m8 d8 bx.lo bY.lo _ HQ8.out).mono ?_
            rintro e v8 ⟨rfl, hb⟩
            rw [HR1.out, HS3.out]
            replace HN := hid (HN.out.below hb)
            refine hK.out _ _ (⟨hS.1.step (hb.mono (by have := hS.1.size; omega)), hS.2.trans (hb.mono hS.2.size)⟩) (fun hS => ?_)
            clear hK K
            try simp only [List.setIfInBounds_toArray, List.set_cons_zero, List.set_cons_succ]
            refine wpAnyH_take (i := 9) (v := ?_) rfl (by kernel_rfl) (by kernel_rfl) (by kernel_rfl) (fun _ _ _ h => h) (Or.inl ⟨by rfl, fun V hV => ?_⟩) (by assumption) ?_
            rotate_left
            · go_simp
              try with_reducible rfl
            try simp only [Act.put, List.getElem_toArray, List.getElem_cons_zero, List.getElem_cons_succ, List.setIfInBounds_toArray, List.set_cons_zero, List.set_cons_succ]
            refine wpAnyH_take (i := 10) (v := ?_) rfl (by kernel_rfl) (by kernel_rfl) (by kernel_rfl) (fun _ _ _ h => h) (Or.inl ⟨by rfl, fun V hV => ?_⟩) (by assumption) ?_
            rotate_left
            · go_simp
              try with_reducible rfl
            try simp only [Act.put, List.getElem_toArray, List.getElem_cons_zero, List.getElem_cons_succ, List.setIfInBounds_toArray, List.set_cons_zero, List.set_cons_succ]
            refine wpAnyH_take (i := 11) (v := ?_) rfl (by kernel_rfl) (by kernel_rfl) (by kernel_rfl) (fun _ _ _ h => h) (Or.inl ⟨by rfl, fun V hV => ?_⟩) (by assumption) ?_
            rotate_left
            · go_simp
              try with_reducible rfl
            try simp only [Act.put, List.getElem_toArray, List.getElem_cons_zero, List.getElem_cons_succ, List.setIfInBounds_toArray, List.set_cons_zero, List.set_cons_succ]
            refine wpAnyH_ready (rs := [13]) (by kernel_rfl) (by simp) ?_
            refine AllReadyH.cons (o := _) rfl (fun K hK => ?_) AllReadyH.nil
            have k0 := (HN.out.2 0 (.int .i64 0) rfl).1; have f0 := (HN.out.2 0 (.int .i64 0) rfl).2
            have k1 := (HN.out.2 1 (.int .i64 0) rfl).1; have f1 := (HN.out.2 1 (.int .i64 0) rfl).2
            have HP : Hid (BoxIs wd.heap.size #[.int .i64 R1.lo, .int .i64 R1.hi] ((v8.setCell ⟨wd.heap.size, 0, none⟩ (.int .i64 R1.lo)).setCell ⟨wd.heap.size, 1, none⟩ (.int .i64 R1.hi))) := hid ((HN.out.put (j := 0) (.int .i64 R1.lo)).put (j := 1) (.int .i64 R1.hi))
            have HSW := hid (hS.1.step ((((Below.refl wd.heap.size v8).setCell (p := ⟨wd.heap.size, 0, none⟩) HL.out (.int .i64 R1.lo)).setCell (p := ⟨wd.heap.size, 1, none⟩) HL.out (.int .i64 R1.hi)).mono (by have := HD.out.size; exact this)))
            have HSB := hid (hS.2.trans (((Below.refl wd.heap.size v8).setCell (p := ⟨wd.heap.size, 0, none⟩) HL.out (.int .i64 R1.lo)).setCell (p := ⟨wd.heap.size, 1, none⟩) HL.out (.int .i64 R1.hi)))
            clear hS
            go_simp
            clear k0 f0 k1 f1
            generalize ((v8.setCell ⟨wd.heap.size, 0, none⟩ (.int .i64 R1.lo)).setCell ⟨wd.heap.size, 1, none⟩ (.int .i64 R1.hi)) = V9 at HP HSW HSB ⊢
            replace HN := HP
            refine hK.out _ _ (⟨HSW.out, HSB.out⟩) (fun hS => ?_)
            clear hK K
            try simp only [List.setIfInBounds_toArray, List.set_cons_zero, List.set_cons_succ]
            refine wpAnyH_take (i := 14) (v := ?_) rfl (by kernel_rfl) (by kernel_rfl) (by kernel_rfl) (fun _ _ _ h => h) (Or.inl ⟨by rfl, fun V hV => ?_⟩) (by assumption) ?_
            rotate_left
            · go_simp
              try with_reducible rfl
            try simp only [Act.put, List.getElem_toArray, List.getElem_cons_zero, List.getElem_cons_succ, List.setIfInBounds_toArray, List.set_cons_zero, List.set_cons_succ]
            refine wpAnyH_done (by kernel_rfl) ?_ _
            go_wp2
            go_meet
            case rel => exact ⟨_, rfl, rfl, HN.out, hS.1, HWD.out.trans (hS.2.mono HWD.out.size)⟩
          case rest =>
            obtain ⟨btHG, rfl, rfl, hn, hw, hbw⟩ := hcut
            have HG := hid hn; have H19 := hid hw
            replace HX := hid (HX.out.below hbw)
            replace HKX := hid (HKX.out.below hbw)
            replace HR := hid (HR.out.below hbw)
            replace HA := hid (HA.out.below hbw)
            replace HB := hid (HB.out.below hbw)
            clear hn hw hbw
            generalize wc = w19 at HX HKX HR HA HB HG H19 ⊢
            go_upto_region 17 with fail
            go_cut [23, 24] from 25 (fun a9 b9 wr => ∃ bt, a9 = .pointer (some ⟨bt, 0, none⟩) ∧ b9 = .int .i64 0 ∧ BoxIs bt #[.int .i64 R2.lo, .int .i64 R2.hi] wr ∧ Boxed2 w #[.int .i64 s.wide, .int .i64 s.high, .int .i64 s.fall, .int .i64 s.a.lo, .int .i64 s.a.hi, .int .i64 s.b.lo, .int .i64 s.b.hi, .int .i64 s.half.lo, .int .i64 s.half.hi, .int .i64 s.peak.lo, .int .i64 s.peak.hi, .slice p n c] 26 #[.int .i64 z.x.lo, .int .i64 z.x.hi, .int .i64 z.y.lo, .int .i64 z.y.hi, .bool z.hail, .int .i64 z.size.lo, .int .i64 z.size.hi] 61 wr ∧ Below w19.heap.size w19 wr)
            case first =>
              obtain ⟨wd, hwd⟩ : ∃ V, w19.drew = V := ⟨_, rfl⟩
              have HD := hid H19.out.drew
              replace HX := hid (HX.out.below (Below.refl _ _).drew)
              replace HKX := hid (HKX.out.below (Below.refl _ _).drew)
              replace HR := hid (HR.out.below (Below.refl _ _).drew)
              replace HA := hid (HA.out.below (Below.refl _ _).drew)
              replace HB := hid (HB.out.below (Below.refl _ _).drew)
              replace HG := hid (HG.out.below (Below.refl _ _).drew)
              rw [hwd] at HD HX HKX HR HA HB HG
              have HWD : Hid (Below w19.heap.size w19 wd) := hid (by rw [← hwd]; exact (Below.refl _ _).drew)
              refine wp_region_held_drew (S := fun V => Boxed2 w #[.int .i64 s.wide, .int .i64 s.high, .int .i64 s.fall, .int .i64 s.a.lo, .int .i64 s.a.hi, .int .i64 s.b.lo, .int .i64 s.b.hi, .int .i64 s.half.lo, .int .i64 s.half.hi, .int .i64 s.peak.lo, .int .i64 s.peak.hi, .slice p n c] 26 #[.int .i64 z.x.lo, .int .i64 z.x.hi, .int .i64 z.y.lo, .int .i64 z.y.hi, .bool z.hail, .int .i64 z.size.lo, .int .i64 z.size.hi] 61 V ∧ Below wd.heap.size wd V) (by kernel_rfl) (by rw [hwd]; exact ⟨HD.out, Below.refl _ _⟩) (fun hS => ?_)
              rw [hwd] at hS ⊢
              clear hwd
              simp only [List.size_toArray, List.length_cons, List.length_nil, Nat.reduceAdd, Array.replicate_succ, Array.replicate_zero, List.push_toArray, List.nil_append, List.cons_append]
              refine wpAnyH_take (i := 0) (v := ?_) rfl (by kernel_rfl) (by kernel_rfl) (by kernel_rfl) (fun _ _ _ h => h) (Or.inl ⟨by rfl, fun V hV => ?_⟩) (by assumption) ?_
              rotate_left
              · have hX := HX.out.below hV.2; have e0 := (hX.2 0 (.int .i64 (plusS s z).wide) rfl).1; have e1 := (hX.2 1 (.int .i64 (plusS s z).high) rfl).1; have e2 := (hX.2 2 (.int .i64 (plusS s z).fall) rfl).1; have e3 := (hX.2 3 (.int .i64 (plusS s z).a.lo) rfl).1; have e4 := (hX.2 4 (.int .i64 (plusS s z).a.hi) rfl).1; have e5 := (hX.2 5 (.int .i64 (plusS s z).b.lo) rfl).1; have e6 := (hX.2 6 (.int .i64 (plusS s z).b.hi) rfl).1; have e7 := (hX.2 7 (.int .i64 (plusS s z).half.lo) rfl).1; have e8 := (hX.2 8 (.int .i64 (plusS s z).half.hi) rfl).1; have e9 := (hX.2 9 (.int .i64 (plusS s z).peak.lo) rfl).1; have e10 := (hX.2 10 (.int .i64 (plusS s z).peak.hi) rfl).1; have e11 := (hX.2 11 (.slice q9 m9 d9) rfl).1; go_simp
                try with_reducible rfl
              try simp only [Act.put, List.getElem_toArray, List.getElem_cons_zero, List.setIfInBounds_toArray, List.set_cons_zero, List.set_cons_succ]
              refine wpAnyH_take (i := 2) (v := ?_) rfl (by kernel_rfl) (by kernel_rfl) (by kernel_rfl) (fun _ _ _ h => h) (Or.inl ⟨by rfl, fun V hV => ?_⟩) (by assumption) ?_
              rotate_left
              · go_simp
                try with_reducible rfl
              try simp only [Act.put, List.getElem_toArray, List.getElem_cons_zero, List.getElem_cons_succ, List.setIfInBounds_toArray, List.set_cons_zero, List.set_cons_succ]
              refine wpAnyH_take (i := 3) (v := ?_) rfl (by kernel_rfl) (by kernel_rfl) (by kernel_rfl) (fun _ _ _ h => h) (Or.inl ⟨by rfl, fun V hV => ?_⟩) (by assumption) ?_
              rotate_left
              · go_simp
                try with_reducible rfl
              try simp only [Act.put, List.getElem_toArray, List.getElem_cons_zero, List.getElem_cons_succ, List.setIfInBounds_toArray, List.set_cons_zero, List.set_cons_succ]
              refine wpAnyH_take (i := 4) (v := ?_) rfl (by kernel_rfl) (by kernel_rfl) (by kernel_rfl) (fun _ _ _ h => h) (Or.inl ⟨by rfl, fun V hV => ?_⟩) (by assumption) ?_
              rotate_left
              · have hX := HR.out.below hV.2; have d0 := (hX.2 0 (.int .i64 bx.lo) rfl).1; have d1 := (hX.2 1 (.int .i64 bx.hi) rfl).1; have d2 := (hX.2 2 (.int .i64 bY.lo) rfl).1; have d3 := (hX.2 3 (.int .i64 bY.hi) rfl).1; go_simp
                try with_reducible rfl
              try simp only [Act.put, List.getElem_toArray, List.getElem_cons_zero, List.getElem_cons_succ, List.setIfInBounds_toArray, List.set_cons_zero, List.set_cons_succ]
              refine wpAnyH_take (i := 5) (v := ?_) rfl (by kernel_rfl) (by kernel_rfl) (by kernel_rfl) (fun _ _ _ h => h) (Or.inl ⟨by rfl, fun V hV => ?_⟩) (by assumption) ?_
              rotate_left
              · go_simp
                try with_reducible rfl
              try simp only [Act.put, List.getElem_toArray, List.getElem_cons_zero, List.getElem_cons_succ, List.setIfInBounds_toArray, List.set_cons_zero, List.set_cons_succ]
              refine wpAnyH_take (i := 6) (v := ?_) rfl (by kernel_rfl) (by kernel_rfl) (by kernel_rfl) (fun _ _ _ h => h) (Or.inl ⟨by rfl, fun V hV => ?_⟩) (by assumption) ?_
              rotate_left
              · go_simp
                try with_reducible rfl
              try simp only [Act.put, List.getElem_toArray, List.getElem_cons_zero, List.getElem_cons_succ, List.setIfInBounds_toArray, List.set_cons_zero, List.set_cons_succ]
              refine wpAnyH_take (i := 7) (v := ?_) rfl (by kernel_rfl) (by kernel_rfl) (by kernel_rfl) (fun _ _ _ h => h) (Or.inl ⟨by rfl, fun V hV => ?_⟩) (by assumption) ?_
              rotate_left
              · have hX := HR.out.below hV.2; have d0 := (hX.2 0 (.int .i64 bx.lo) rfl).1; have d1 := (hX.2 1 (.int .i64 bx.hi) rfl).1; have d2 := (hX.2 2 (.int .i64 bY.lo) rfl).1; have d3 := (hX.2 3 (.int .i64 bY.hi) rfl).1; go_simp
                try with_reducible rfl
              try simp only [Act.put, List.getElem_toArray, List.getElem_cons_zero, List.getElem_cons_succ, List.setIfInBounds_toArray, List.set_cons_zero, List.set_cons_succ]
              refine wpAnyH_ready (rs := [1, 12]) (by kernel_rfl) (by simp) ?_
              refine AllReadyH.cons (o := _) rfl (fun K hK => ?_) ?_
              · skip
                go_simp
                refine (storm20_any (plusS s z) q9 m9 d9 _ (HKX.out.below hS.2) HMX.out).mono ?_
                rintro e v1 ⟨q8, m8, d8, rfl, hc8, hb⟩
                have HQ8 := hid hc8
                clear hc8
                refine hK.out _ _ (⟨hS.1.step (hb.mono (by have := hS.1.size; omega)), hS.2.trans (hb.mono hS.2.size)⟩) (fun hS => ?_)
                clear hK K
                try simp only [List.setIfInBounds_toArray, List.set_cons_zero, List.set_cons_succ]
                refine wpAnyH_ready (rs := [8, 12]) (by kernel_rfl) (by simp) ?_
                refine AllReadyH.cons (o := _) rfl (fun K hK => ?_) ?_
                · skip
                  go_simp
                  refine (sizes_any (plusS s z) q8 m8 d8 bx.lo bY.lo _ HQ8.out).mono ?_
                  rintro e v8 ⟨rfl, hb⟩
                  rw [HR2.out, HS4.out]
                  refine hK.out _ _ (⟨hS.1.step (hb.mono (by have := hS.1.size; omega)), hS.2.trans (hb.mono hS.2.size)⟩) (fun hS => ?_)
                  clear hK K
                  try simp only [List.setIfInBounds_toArray, List.set_cons_zero, List.set_cons_succ]
                  refine wpAnyH_take (i := 9) (v := ?_) rfl (by kernel_rfl) (by kernel_rfl) (by kernel_rfl) (fun _ _ _ h => h) (Or.inl ⟨by rfl, fun V hV => ?_⟩) (by assumption) ?_
                  rotate_left
                  · go_simp
                    try with_reducible rfl
                  try simp only [Act.put, List.getElem_toArray, List.getElem_cons_zero, List.getElem_cons_succ, List.setIfInBounds_toArray, List.set_cons_zero, List.set_cons_succ]
                  refine wpAnyH_take (i := 10) (v := ?_) rfl (by kernel_rfl) (by kernel_rfl) (by kernel_rfl) (fun _ _ _ h => h) (Or.inl ⟨by rfl, fun V hV => ?_⟩) (by assumption) ?_
                  rotate_left
                  · go_simp
                    try with_reducible rfl
                  try simp only [Act.put, List.getElem_toArray, List.getElem_cons_zero, List.getElem_cons_succ, List.setIfInBounds_toArray, List.set_cons_zero, List.set_cons_succ]
                  refine wpAnyH_take (i := 11) (v := ?_) rfl (by kernel_rfl) (by kernel_rfl) (by kernel_rfl) (fun _ _ _ h => h) (Or.inl ⟨by rfl, fun V hV => ?_⟩) (by assumption) ?_
                  rotate_left
                  · go_simp
                    try with_reducible rfl
                  try simp only [Act.put, List.getElem_toArray, List.getElem_cons_zero, List.getElem_cons_succ, List.setIfInBounds_toArray, List.set_cons_zero, List.set_cons_succ]
                  refine wpAnyH_ready (rs := [12]) (by kernel_rfl) (by simp) ?_
                  refine AllReadyH.cons (o := _) rfl (fun K hK => ?_) AllReadyH.nil
                  obtain ⟨v12, hv12⟩ : ∃ V, v8.alloc (.cells #[.int .i64 0, .int .i64 0] 29) = V := ⟨_, rfl⟩
                  have hb : Below v8.heap.size v8 v12 := by rw [← hv12]; exact (Below.refl _ _).alloc (Nat.le_refl _) _
                  have HN : Hid (BoxIs v8.heap.size #[.int .i64 0, .int .i64 0] v12) := by show BoxIs _ _ _; rw [← hv12]; exact BoxIs.start _ _ _
                  have HL : Hid (wd.heap.size ≤ v8.heap.size) := hid hS.2.size
                  go_simp
                  refine hK.out _ _ (⟨hS.1.step (hb.mono (by have := hS.1.size; omega)), hS.2.trans (hb.mono hS.2.size)⟩) (fun hS => ?_)
                  clear hK K
                  try simp only [List.setIfInBounds_toArray, List.set_cons_zero, List.set_cons_succ]
                  refine wpAnyH_ready (rs := [13]) (by kernel_rfl) (by simp) ?_
                  refine AllReadyH.cons (o := _) rfl (fun K hK => ?_) AllReadyH.nil
                  have k0 := (HN.out.2 0 (.int .i64 0) rfl).1; have f0 := (HN.out.2 0 (.int .i64 0) rfl).2
                  have k1 := (HN.out.2 1 (.int .i64 0) rfl).1; have f1 := (HN.out.2 1 (.int .i64 0) rfl).2
                  have HP : Hid (BoxIs v8.heap.size #[.int .i64 R2.lo, .int .i64 R2.hi] ((v12.setCell ⟨v8.heap.size, 0, none⟩ (.int .i64 R2.lo)).setCell ⟨v8.heap.size, 1, none⟩ (.int .i64 R2.hi))) := hid ((HN.out.put (j := 0) (.int .i64 R2.lo)).put (j := 1) (.int .i64 R2.hi))
                  have HSW := hid (hS.1.step ((((Below.refl wd.heap.size v12).setCell (p := ⟨v8.heap.size, 0, none⟩) HL.out (.int .i64 R2.lo)).setCell (p := ⟨v8.heap.size, 1, none⟩) HL.out (.int .i64 R2.hi)).mono (by have := HD.out.size; exact this)))
                  have HSB := hid (hS.2.trans (((Below.refl wd.heap.size v12).setCell (p := ⟨v8.heap.size, 0, none⟩) HL.out (.int .i64 R2.lo)).setCell (p := ⟨v8.heap.size, 1, none⟩) HL.out (.int .i64 R2.hi)))
                  clear hS
                  go_simp
                  clear k0 f0 k1 f1
                  generalize ((v12.setCell ⟨v8.heap.size, 0, none⟩ (.int .i64 R2.lo)).setCell ⟨v8.heap.size, 1, none⟩ (.int .i64 R2.hi)) = V9 at HP HSW HSB ⊢
                  replace HN := HP
                  refine hK.out _ _ (⟨HSW.out, HSB.out⟩) (fun hS => ?_)
                  clear hK K
                  try simp only [List.setIfInBounds_toArray, List.set_cons_zero, List.set_cons_succ]
                  refine wpAnyH_take (i := 14) (v := ?_) rfl (by kernel_rfl) (by kernel_rfl) (by kernel_rfl) (fun _ _ _ h => h) (Or.inl ⟨by rfl, fun V hV => ?_⟩) (by assumption) ?_
                  rotate_left
                  · go_simp
                    try with_reducible rfl
                  try simp only [Act.put, List.getElem_toArray, List.getElem_cons_zero, List.getElem_cons_succ, List.setIfInBounds_toArray, List.set_cons_zero, List.set_cons_succ]
                  refine wpAnyH_done (by kernel_rfl) ?_ _
                  go_wp2
                  go_meet
                  case rel => exact ⟨_, rfl, rfl, HN.out, hS.1, HWD.out.trans (hS.2.mono HWD.out.size)⟩
                refine AllReadyH.cons (o := _) rfl (fun K hK => ?_) AllReadyH.nil
                obtain ⟨v12, hv12⟩ : ∃ V, v1.alloc (.cells #[.int .i64 0, .int .i64 0] 29) = V := ⟨_, rfl⟩
                have hb : Below v1.heap.size v1 v12 := by rw [← hv12]; exact (Below.refl _ _).alloc (Nat.le_refl _) _
                have HN : Hid (BoxIs v1.heap.size #[.int .i64 0, .int .i64 0] v12) := by show BoxIs _ _ _; rw [← hv12]; exact BoxIs.start _ _ _
                have HL : Hid (wd.heap.size ≤ v1.heap.size) := hid hS.2.size
                replace HQ8 := hid (HQ8.out.below hb)
                go_simp
                refine hK.out _ _ (⟨hS.1.step (hb.mono (by have := hS.1.size; omega)), hS.2.trans (hb.mono hS.2.size)⟩) (fun hS => ?_)
                clear hK K
                try simp only [List.setIfInBounds_toArray, List.set_cons_zero, List.set_cons_succ]
                refine wpAnyH_ready (rs := [8]) (by kernel_rfl) (by simp) ?_
                refine AllReadyH.cons (o := _) rfl (fun K hK => ?_) AllReadyH.nil
                go_simp
                refine (sizes_any (plusS s z) q8 m8 d8 bx.lo bY.lo _ HQ8.out).mono ?_
                rintro e v8 ⟨rfl, hb⟩
                rw [HR2.out, HS4.out]
                replace HN := hid (HN.out.below hb)
                refine hK.out _ _ (⟨hS.1.step (hb.mono (by have := hS.1.size; omega)), hS.2.trans (hb.mono hS.2.size)⟩) (fun hS => ?_)
                clear hK K
                try simp only [List.setIfInBounds_toArray, List.set_cons_zero, List.set_cons_succ]
                refine wpAnyH_take (i := 9) (v := ?_) rfl (by kernel_rfl) (by kernel_rfl) (by kernel_rfl) (fun _ _ _ h => h) (Or.inl ⟨by rfl, fun V hV => ?_⟩) (by assumption) ?_
                rotate_left
                · go_simp
                  try with_reducible rfl
                try simp only [Act.put, List.getElem_toArray, List.getElem_cons_zero, List.getElem_cons_succ, List.setIfInBounds_toArray, List.set_cons_zero, List.set_cons_succ]
                refine wpAnyH_take (i := 10) (v := ?_) rfl (by kernel_rfl) (by kernel_rfl) (by kernel_rfl) (fun _ _ _ h => h) (Or.inl ⟨by rfl, fun V hV => ?_⟩) (by assumption) ?_
                rotate_left
                · go_simp
                  try with_reducible rfl
                try simp only [Act.put, List.getElem_toArray, List.getElem_cons_zero, List.getElem_cons_succ, List.setIfInBounds_toArray, List.set_cons_zero, List.set_cons_succ]
                refine wpAnyH_take (i := 11) (v := ?_) rfl (by kernel_rfl) (by kernel_rfl) (by kernel_rfl) (fun _ _ _ h => h) (Or.inl ⟨by rfl, fun V hV => ?_⟩) (by assumption) ?_
                rotate_left
                · go_simp
                  try with_reducible rfl
                try simp only [Act.put, List.getElem_toArray, List.getElem_cons_zero, List.getElem_cons_succ, List.setIfInBounds_toArray, List.set_cons_zero, List.set_cons_succ]
                refine wpAnyH_ready (rs := [13]) (by kernel_rfl) (by simp) ?_
                refine AllReadyH.cons (o := _) rfl (fun K hK => ?_) AllReadyH.nil
                have k0 := (HN.out.2 0 (.int .i64 0) rfl).1; have f0 := (HN.out.2 0 (.int .i64 0) rfl).2
                have k1 := (HN.out.2 1 (.int .i64 0) rfl).1; have f1 := (HN.out.2 1 (.int .i64 0) rfl).2
                have HP : Hid (BoxIs v1.heap.size #[.int .i64 R2.lo, .int .i64 R2.hi] ((v8.setCell ⟨v1.heap.size, 0, none⟩ (.int .i64 R2.lo)).setCell ⟨v1.heap.size, 1, none⟩ (.int .i64 R2.hi))) := hid ((HN.out.put (j := 0) (.int .i64 R2.lo)).put (j := 1) (.int .i64 R2.hi))
                have HSW := hid (hS.1.step ((((Below.refl wd.heap.size v8).setCell (p := ⟨v1.heap.size, 0, none⟩) HL.out (.int .i64 R2.lo)).setCell (p := ⟨v1.heap.size, 1, none⟩) HL.out (.int .i64 R2.hi)).mono (by have := HD.out.size; exact this)))
                have HSB := hid (hS.2.trans (((Below.refl wd.heap.size v8).setCell (p := ⟨v1.heap.size, 0, none⟩) HL.out (.int .i64 R2.lo)).setCell (p := ⟨v1.heap.size, 1, none⟩) HL.out (.int .i64 R2.hi)))
                clear hS
                go_simp
                clear k0 f0 k1 f1
                generalize ((v8.setCell ⟨v1.heap.size, 0, none⟩ (.int .i64 R2.lo)).setCell ⟨v1.heap.size, 1, none⟩ (.int .i64 R2.hi)) = V9 at HP HSW HSB ⊢
                replace HN := HP
                refine hK.out _ _ (⟨HSW.out, HSB.out⟩) (fun hS => ?_)
                clear hK K
                try simp only [List.setIfInBounds_toArray, List.set_cons_zero, List.set_cons_succ]
                refine wpAnyH_take (i := 14) (v := ?_) rfl (by kernel_rfl) (by kernel_rfl) (by kernel_rfl) (fun _ _ _ h => h) (Or.inl ⟨by rfl, fun V hV => ?_⟩) (by assumption) ?_
                rotate_left
                · go_simp
                  try with_reducible rfl
                try simp only [Act.put, List.getElem_toArray, List.getElem_cons_zero, List.getElem_cons_succ, List.setIfInBounds_toArray, List.set_cons_zero, List.set_cons_succ]
                refine wpAnyH_done (by kernel_rfl) ?_ _
                go_wp2
                go_meet
                case rel => exact ⟨_, rfl, rfl, HN.out, hS.1, HWD.out.trans (hS.2.mono HWD.out.size)⟩
              refine AllReadyH.cons (o := _) rfl (fun K hK => ?_) AllReadyH.nil
              obtain ⟨v12, hv12⟩ : ∃ V, wd.alloc (.cells #[.int .i64 0, .int .i64 0] 29) = V := ⟨_, rfl⟩
              have hb : Below wd.heap.size wd v12 := by rw [← hv12]; exact (Below.refl _ _).alloc (Nat.le_refl _) _
              have HN : Hid (BoxIs wd.heap.size #[.int .i64 0, .int .i64 0] v12) := by show BoxIs _ _ _; rw [← hv12]; exact BoxIs.start _ _ _
              have HL : Hid (wd.heap.size ≤ wd.heap.size) := hid hS.2.size
              go_simp
              refine hK.out _ _ (⟨hS.1.step (hb.mono (by have := hS.1.size; omega)), hS.2.trans (hb.mono hS.2.size)⟩) (fun hS => ?_)
              clear hK K
              try simp only [List.setIfInBounds_toArray, List.set_cons_zero, List.set_cons_succ]
              refine wpAnyH_ready (rs := [1]) (by kernel_rfl) (by simp) ?_
              refine AllReadyH.cons (o := _) rfl (fun K hK => ?_) AllReadyH.nil
              go_simp
              refine (storm20_any (plusS s z) q9 m9 d9 _ (HKX.out.below hS.2) HMX.out).mono ?_
              rintro e v1 ⟨q8, m8, d8, rfl, hc8, hb⟩
              have HQ8 := hid hc8
              clear hc8
              replace HN := hid (HN.out.below hb)
              refine hK.out _ _ (⟨hS.1.step (hb.mono (by have := hS.1.size; omega)), hS.2.trans (hb.mono hS.2.size)⟩) (fun hS => ?_)
              clear hK K
              try simp only [List.setIfInBounds_toArray, List.set_cons_zero, List.set_cons_succ]
              refine wpAnyH_ready (rs := [8]) (by kernel_rfl) (by simp) ?_
              refine AllReadyH.cons (o := _) rfl (fun K hK => ?_) AllReadyH.nil
              go_simp
              refine (sizes_any (plusS s z) q8 m8 d8 bx.lo bY.lo _ HQ8.out).mono ?_
              rintro e v8 ⟨rfl, hb⟩
              rw [HR2.out, HS4.out]
              replace HN := hid (HN.out.below hb)
              refine hK.out _ _ (⟨hS.1.step (hb.mono (by have := hS.1.size; omega)), hS.2.trans (hb.mono hS.2.size)⟩) (fun hS => ?_)
              clear hK K
              try simp only [List.setIfInBounds_toArray, List.set_cons_zero, List.set_cons_succ]
              refine wpAnyH_take (i := 9) (v := ?_) rfl (by kernel_rfl) (by kernel_rfl) (by kernel_rfl) (fun _ _ _ h => h) (Or.inl ⟨by rfl, fun V hV => ?_⟩) (by assumption) ?_
              rotate_left
              · go_simp
                try with_reducible rfl
              try simp only [Act.put, List.getElem_toArray, List.getElem_cons_zero, List.getElem_cons_succ, List.setIfInBounds_toArray, List.set_cons_zero, List.set_cons_succ]
              refine wpAnyH_take (i := 10) (v := ?_) rfl (by kernel_rfl) (by kernel_rfl) (by kernel_rfl) (fun _ _ _ h => h) (Or.inl ⟨by rfl, fun V hV => ?_⟩) (by assumption) ?_
              rotate_left
              · go_simp
                try with_reducible rfl
              try simp only [Act.put, List.getElem_toArray, List.getElem_cons_zero, List.getElem_cons_succ, List.setIfInBounds_toArray, List.set_cons_zero, List.set_cons_succ]
              refine wpAnyH_take (i := 11) (v := ?_) rfl (by kernel_rfl) (by kernel_rfl) (by kernel_rfl) (fun _ _ _ h => h) (Or.inl ⟨by rfl, fun V hV => ?_⟩) (by assumption) ?_
              rotate_left
              · go_simp
                try with_reducible rfl
              try simp only [Act.put, List.getElem_toArray, List.getElem_cons_zero, List.getElem_cons_succ, List.setIfInBounds_toArray, List.set_cons_zero, List.set_cons_succ]
              refine wpAnyH_ready (rs := [13]) (by kernel_rfl) (by simp) ?_
              refine AllReadyH.cons (o := _) rfl (fun K hK => ?_) AllReadyH.nil
              have k0 := (HN.out.2 0 (.int .i64 0) rfl).1; have f0 := (HN.out.2 0 (.int .i64 0) rfl).2
              have k1 := (HN.out.2 1 (.int .i64 0) rfl).1; have f1 := (HN.out.2 1 (.int .i64 0) rfl).2
              have HP : Hid (BoxIs wd.heap.size #[.int .i64 R2.lo, .int .i64 R2.hi] ((v8.setCell ⟨wd.heap.size, 0, none⟩ (.int .i64 R2.lo)).setCell ⟨wd.heap.size, 1, none⟩ (.int .i64 R2.hi))) := hid ((HN.out.put (j := 0) (.int .i64 R2.lo)).put (j := 1) (.int .i64 R2.hi))
              have HSW := hid (hS.1.step ((((Below.refl wd.heap.size v8).setCell (p := ⟨wd.heap.size, 0, none⟩) HL.out (.int .i64 R2.lo)).setCell (p := ⟨wd.heap.size, 1, none⟩) HL.out (.int .i64 R2.hi)).mono (by have := HD.out.size; exact this)))
              have HSB := hid (hS.2.trans (((Below.refl wd.heap.size v8).setCell (p := ⟨wd.heap.size, 0, none⟩) HL.out (.int .i64 R2.lo)).setCell (p := ⟨wd.heap.size, 1, none⟩) HL.out (.int .i64 R2.hi)))
              clear hS
              go_simp
              clear k0 f0 k1 f1
              generalize ((v8.setCell ⟨wd.heap.size, 0, none⟩ (.int .i64 R2.lo)).setCell ⟨wd.heap.size, 1, none⟩ (.int .i64 R2.hi)) = V9 at HP HSW HSB ⊢
              replace HN := HP
              refine hK.out _ _ (⟨HSW.out, HSB.out⟩) (fun hS => ?_)
              clear hK K
              try simp only [List.setIfInBounds_toArray, List.set_cons_zero, List.set_cons_succ]
              refine wpAnyH_take (i := 14) (v := ?_) rfl (by kernel_rfl) (by kernel_rfl) (by kernel_rfl) (fun _ _ _ h => h) (Or.inl ⟨by rfl, fun V hV => ?_⟩) (by assumption) ?_
              rotate_left
              · go_simp
                try with_reducible rfl
              try simp only [Act.put, List.getElem_toArray, List.getElem_cons_zero, List.getElem_cons_succ, List.setIfInBounds_toArray, List.set_cons_zero, List.set_cons_succ]
              refine wpAnyH_done (by kernel_rfl) ?_ _
              go_wp2
              go_meet
              case rel => exact ⟨_, rfl, rfl, HN.out, hS.1, HWD.out.trans (hS.2.mono HWD.out.size)⟩
            case rest =>
              obtain ⟨btHJ, rfl, rfl, hn, hw, hbw⟩ := hcut
              have HJ := hid hn; have H20 := hid hw
              replace HX := hid (HX.out.below hbw)
              replace HKX := hid (HKX.out.below hbw)
              replace HR := hid (HR.out.below hbw)
              replace HA := hid (HA.out.below hbw)
              replace HB := hid (HB.out.below hbw)
              replace HG := hid (HG.out.below hbw)
              clear hn hw hbw
              generalize wc = w20 at HX HKX HR HA HB HG HJ H20 ⊢
              have e0 := (HA.out.2 0 (.int .i64 aS.wide) rfl).1; have e1 := (HA.out.2 1 (.int .i64 aS.high) rfl).1; have e2 := (HA.out.2 2 (.int .i64 aS.fall) rfl).1; have e3 := (HA.out.2 3 (.int .i64 aS.a.lo) rfl).1; have e4 := (HA.out.2 4 (.int .i64 aS.a.hi) rfl).1; have e5 := (HA.out.2 5 (.int .i64 aS.b.lo) rfl).1; have e6 := (HA.out.2 6 (.int .i64 aS.b.hi) rfl).1; have e7 := (HA.out.2 7 (.int .i64 aS.half.lo) rfl).1; have e8 := (HA.out.2 8 (.int .i64 aS.half.hi) rfl).1; have e9 := (HA.out.2 9 (.int .i64 aS.peak.lo) rfl).1; have e10 := (HA.out.2 10 (.int .i64 aS.peak.hi) rfl).1; have e11 := (HA.out.2 11 (.slice qa ma da) rfl).1
              have f0 := (HB.out.2 0 (.int .i64 bS.wide) rfl).1; have f1 := (HB.out.2 1 (.int .i64 bS.high) rfl).1; have f2 := (HB.out.2 2 (.int .i64 bS.fall) rfl).1; have f3 := (HB.out.2 3 (.int .i64 bS.a.lo) rfl).1; have f4 := (HB.out.2 4 (.int .i64 bS.a.hi) rfl).1; have f5 := (HB.out.2 5 (.int .i64 bS.b.lo) rfl).1; have f6 := (HB.out.2 6 (.int .i64 bS.b.hi) rfl).1; have f7 := (HB.out.2 7 (.int .i64 bS.half.lo) rfl).1; have f8 := (HB.out.2 8 (.int .i64 bS.half.hi) rfl).1; have f9 := (HB.out.2 9 (.int .i64 bS.peak.lo) rfl).1; have f10 := (HB.out.2 10 (.int .i64 bS.peak.hi) rfl).1; have f11 := (HB.out.2 11 (.slice qb mb db) rfl).1
              go_wp2_with fail
              refine (narrow_any bS aS qb mb db qa ma da _).mono ?_
              rintro e w21 ⟨rfl, hb⟩
              have H21 := hid (H20.out.step (hb.mono (by have := H20.out.size; omega)))
              replace HX := hid (HX.out.below hb)
              replace HKX := hid (HKX.out.below hb)
              replace HR := hid (HR.out.below hb)
              replace HA := hid (HA.out.below hb)
              replace HB := hid (HB.out.below hb)
              replace HG := hid (HG.out.below hb)
              replace HJ := hid (HJ.out.below hb)
              rw [HNB.out]
              clear hb e0 f0 e1 f1 e2 f2 e3 f3 e4 f4 e5 f5 e6 f6 e7 f7 e8 f8 e9 f9 e10 f10 e11 f11
              have x0 := (HG.out.2 0 (.int .i64 R1.lo) rfl).1; have x1 := (HG.out.2 1 (.int .i64 R1.hi) rfl).1
              have y0 := (HJ.out.2 0 (.int .i64 R2.lo) rfl).1; have y1 := (HJ.out.2 1 (.int .i64 R2.hi) rfl).1
              have hvv : (V1 == 3) = true ∨ (V1 == 3) = false ∧ (V1 == V2) = true := by
                rcases HVV.out with h | h
                · left; simpa using h
                · by_cases h3 : V1 = 3
                  · left; simpa using h3
                  · right; exact ⟨by simpa using h3, by simp [h]⟩
              rcases hvv with h3 | ⟨h3, h4⟩
              all_goals go_wp2_with fail
              all_goals (with_reducible refine (inside_any R2 R1 _).mono ?_)
              all_goals rintro e w22 ⟨rfl, hb⟩
              all_goals rw [HIN.out]
              all_goals have H22 := hid (H21.out.step (hb.mono (by have := H21.out.size; omega)))
              all_goals clear hb
              all_goals go_wp2_with fail
              all_goals refine (awake_any _).mono ?_
              all_goals rintro e w99 ⟨rfl, hb⟩
              all_goals go_wp2_with fail
              all_goals go_ret
              all_goals exact ⟨rfl, H22.out.below.trans (hb.mono H22.out.below.size)⟩
end Go.Proofs.Ytfnefkenheglhaa
