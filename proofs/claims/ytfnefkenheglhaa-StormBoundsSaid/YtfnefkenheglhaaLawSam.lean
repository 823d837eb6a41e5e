/- The laws: a storm is the same as another one with the same cards; the zero one is empty. No condition. -/
import Derived.Test.YtfnefkenheglhaaLawB
namespace Go.Proofs.Ytfnefkenheglhaa
open Go.RowKit

/-- A card of a slice, cell by cell, in all later worlds. -/
theorem crd_later {w : World} {q : Option Addr} {m : Nat} {l : List Crd} (h : CrdsAt w q m l) {k : Nat} {z : Crd} (hz : l[k]? = some z) : ∃ b o, q = some ⟨b, o, none⟩ ∧ ∀ V, Below w.heap.size w V →
    V.cell? ⟨b, o + k * 7, none⟩ = some (.int .i64 z.x.lo) ∧ V.cell? ⟨b, o + k * 7 + 1, none⟩ = some (.int .i64 z.x.hi) ∧ V.cell? ⟨b, o + k * 7 + 2, none⟩ = some (.int .i64 z.y.lo) ∧ V.cell? ⟨b, o + k * 7 + 3, none⟩ = some (.int .i64 z.y.hi) ∧ V.cell? ⟨b, o + k * 7 + 4, none⟩ = some (.bool z.hail) ∧ V.cell? ⟨b, o + k * 7 + 5, none⟩ = some (.int .i64 z.size.lo) ∧ V.cell? ⟨b, o + k * 7 + 6, none⟩ = some (.int .i64 z.size.hi) := by
  obtain ⟨b, o, e, hlt, c0, c1, c2, c3, c4, c5, c6⟩ := h.2 k z hz
  refine ⟨b, o, e, fun V hV => ?_⟩
  have kk : ∀ (o : Nat) (v : Value), w.cell? ⟨b, o, none⟩ = some v → V.cell? ⟨b, o, none⟩ = some v := fun o v h => (hV.cell (p := ⟨b, o, none⟩) hlt).trans h
  exact ⟨kk _ _ c0, kk _ _ c1, kk _ _ c2, kk _ _ c3, kk _ _ c4, kk _ _ c5, kk _ _ c6⟩

set_option maxRecDepth 40000 in
set_option maxHeartbeats 16000000 in
theorem same_any (s : Sto) (q : Option Addr) (m d : Nat) (p : Option Addr) (n c : Nat) (w : World) (hq : CrdsAt w q m s.cards) (hcs : CrdsAt w p n s.cards) (hn : n ≤ 1000) :
    Calls Try.prog 59 #[.agg #[.int .i64 s.wide, .int .i64 s.high, .int .i64 s.fall, .int .i64 s.a.lo, .int .i64 s.a.hi, .int .i64 s.b.lo, .int .i64 s.b.hi, .int .i64 s.half.lo, .int .i64 s.half.hi, .int .i64 s.peak.lo, .int .i64 s.peak.hi, .slice q m d], .agg #[.int .i64 s.wide, .int .i64 s.high, .int .i64 s.fall, .int .i64 s.a.lo, .int .i64 s.a.hi, .int .i64 s.b.lo, .int .i64 s.b.hi, .int .i64 s.half.lo, .int .i64 s.half.hi, .int .i64 s.peak.lo, .int .i64 s.peak.hi, .slice p n c]] w fun e w' => e = .returned (.bool true) ∧ Below w.heap.size w w' := by
  have HQ := hid hq; have HC := hid hcs; have HN := hid hn
  clear hq hcs hn
  have H0 : Hid (Boxed2 w #[.int .i64 s.wide, .int .i64 s.high, .int .i64 s.fall, .int .i64 s.a.lo, .int .i64 s.a.hi, .int .i64 s.b.lo, .int .i64 s.b.hi, .int .i64 s.half.lo, .int .i64 s.half.hi, .int .i64 s.peak.lo, .int .i64 s.peak.hi, .slice q m d] 35 #[.int .i64 s.wide, .int .i64 s.high, .int .i64 s.fall, .int .i64 s.a.lo, .int .i64 s.a.hi, .int .i64 s.b.lo, .int .i64 s.b.hi, .int .i64 s.half.lo, .int .i64 s.half.hi, .int .i64 s.peak.lo, .int .i64 s.peak.hi, .slice p n c] 26 ((w.alloc (.cells #[.int .i64 s.wide, .int .i64 s.high, .int .i64 s.fall, .int .i64 s.a.lo, .int .i64 s.a.hi, .int .i64 s.b.lo, .int .i64 s.b.hi, .int .i64 s.half.lo, .int .i64 s.half.hi, .int .i64 s.peak.lo, .int .i64 s.peak.hi, .slice q m d] 35)).alloc (.cells #[.int .i64 s.wide, .int .i64 s.high, .int .i64 s.fall, .int .i64 s.a.lo, .int .i64 s.a.hi, .int .i64 s.b.lo, .int .i64 s.b.hi, .int .i64 s.half.lo, .int .i64 s.half.hi, .int .i64 s.peak.lo, .int .i64 s.peak.hi, .slice p n c] 26))) := Below.refl _ _
  go_enter Try.func59, Try.ntmps59
  have e0 := (StoAt.of H0.out.cell2).c0; have e1 := (StoAt.of H0.out.cell2).c1; have e2 := (StoAt.of H0.out.cell2).c2; have e3 := (StoAt.of H0.out.cell2).c3; have e4 := (StoAt.of H0.out.cell2).c4; have e5 := (StoAt.of H0.out.cell2).c5; have e6 := (StoAt.of H0.out.cell2).c6; have e7 := (StoAt.of H0.out.cell2).c7; have e8 := (StoAt.of H0.out.cell2).c8; have e9 := (StoAt.of H0.out.cell2).c9; have e10 := (StoAt.of H0.out.cell2).c10; have e11 := (StoAt.of H0.out.cell2).c11
  go_wp2_with fail
  refine (storm20_any s p n c _ (HC.out.below H0.out.below) HN.out).mono ?_
  rintro e w1 ⟨q2, m2, d2, rfl, hc, hb⟩
  have H1 := hid (H0.out.step (hb.mono (by have := H0.out.size; omega)))
  have HK := hid hc
  clear e0 e1 e2 e3 e4 e5 e6 e7 e8 e9 e10 e11 hb hc
  have hm2 : m2 = m := by rw [HK.out.1, HQ.out.1]
  subst hm2
  obtain ⟨w2, hw2⟩ : ∃ V, w1.alloc (.cells #[.int .i64 s.wide, .int .i64 s.high, .int .i64 s.fall, .int .i64 s.a.lo, .int .i64 s.a.hi, .int .i64 s.b.lo, .int .i64 s.b.hi, .int .i64 s.half.lo, .int .i64 s.half.hi, .int .i64 s.peak.lo, .int .i64 s.peak.hi, .slice q2 m2 d2] 35) = V := ⟨_, rfl⟩
  have H2 : Hid (Boxed2 w #[.int .i64 s.wide, .int .i64 s.high, .int .i64 s.fall, .int .i64 s.a.lo, .int .i64 s.a.hi, .int .i64 s.b.lo, .int .i64 s.b.hi, .int .i64 s.half.lo, .int .i64 s.half.hi, .int .i64 s.peak.lo, .int .i64 s.peak.hi, .slice q m2 d] 35 #[.int .i64 s.wide, .int .i64 s.high, .int .i64 s.fall, .int .i64 s.a.lo, .int .i64 s.a.hi, .int .i64 s.b.lo, .int .i64 s.b.hi, .int .i64 s.half.lo, .int .i64 s.half.hi, .int .i64 s.peak.lo, .int .i64 s.peak.hi, .slice p n c] 26 w2) := by show Boxed2 _ _ _ _ _ _; rw [← hw2]; exact H1.out.alloc _
  have HX : Hid (BoxIs w1.heap.size #[.int .i64 s.wide, .int .i64 s.high, .int .i64 s.fall, .int .i64 s.a.lo, .int .i64 s.a.hi, .int .i64 s.b.lo, .int .i64 s.b.hi, .int .i64 s.half.lo, .int .i64 s.half.hi, .int .i64 s.peak.lo, .int .i64 s.peak.hi, .slice q2 m2 d2] w2) := by show BoxIs _ _ _; rw [← hw2]; exact BoxIs.start _ _ _
  have HBW : Hid (Below w1.heap.size w1 w2) := hid (by rw [← hw2]; exact (Below.refl _ _).alloc (Nat.le_refl _) _)
  replace HK := hid (HK.out.below HBW.out)
  go_upto_region 2 with fail
  clear hw2
  have e0 := (StoAt.of H2.out.cell1).c0; have e1 := (StoAt.of H2.out.cell1).c1; have e2 := (StoAt.of H2.out.cell1).c2; have e3 := (StoAt.of H2.out.cell1).c3; have e4 := (StoAt.of H2.out.cell1).c4; have e5 := (StoAt.of H2.out.cell1).c5; have e6 := (StoAt.of H2.out.cell1).c6; have e7 := (StoAt.of H2.out.cell1).c7; have e8 := (StoAt.of H2.out.cell1).c8; have e9 := (StoAt.of H2.out.cell1).c9; have e10 := (StoAt.of H2.out.cell1).c10; have e11 := (StoAt.of H2.out.cell1).c11
  have g0 := (HX.out.2 0 (.int .i64 s.wide) rfl).1; have g1 := (HX.out.2 1 (.int .i64 s.high) rfl).1; have g2 := (HX.out.2 2 (.int .i64 s.fall) rfl).1; have g3 := (HX.out.2 3 (.int .i64 s.a.lo) rfl).1; have g4 := (HX.out.2 4 (.int .i64 s.a.hi) rfl).1; have g5 := (HX.out.2 5 (.int .i64 s.b.lo) rfl).1; have g6 := (HX.out.2 6 (.int .i64 s.b.hi) rfl).1; have g7 := (HX.out.2 7 (.int .i64 s.half.lo) rfl).1; have g8 := (HX.out.2 8 (.int .i64 s.half.hi) rfl).1; have g9 := (HX.out.2 9 (.int .i64 s.peak.lo) rfl).1; have g10 := (HX.out.2 10 (.int .i64 s.peak.hi) rfl).1; have g11 := (HX.out.2 11 (.slice q2 m2 d2) rfl).1
  go_wp2_with fail
  clear e0 g0 e1 g1 e2 g2 e3 g3 e4 g4 e5 g5 e6 g6 e7 g7 e8 g8 e9 g9 e10 g10 e11 g11
  go_loopw [6] (fun j wr => ∃ k : Nat, k ≤ m2 ∧ j = .int .i64 k ∧ Boxed2 w #[.int .i64 s.wide, .int .i64 s.high, .int .i64 s.fall, .int .i64 s.a.lo, .int .i64 s.a.hi, .int .i64 s.b.lo, .int .i64 s.b.hi, .int .i64 s.half.lo, .int .i64 s.half.hi, .int .i64 s.peak.lo, .int .i64 s.peak.hi, .slice q m2 d] 35 #[.int .i64 s.wide, .int .i64 s.high, .int .i64 s.fall, .int .i64 s.a.lo, .int .i64 s.a.hi, .int .i64 s.b.lo, .int .i64 s.b.hi, .int .i64 s.half.lo, .int .i64 s.half.hi, .int .i64 s.peak.lo, .int .i64 s.peak.hi, .slice p n c] 26 wr ∧ Below w2.heap.size w2 wr) (fun j _ => m2 - (intOf j).toNat)
  case atStart => exact ⟨0, by omega, rfl, H2.out, Below.refl _ _⟩
  case round =>
    obtain ⟨k, hk, rfl, hw, hbw⟩ := hrel
    have HW := hid hw; have HBr := hid hbw
    clear hw hbw
    have e11 := (StoAt.of HW.out.cell1).c11
    have hm9 : m2 ≤ 1000 := by have h1 := HN.out; have h2 := HC.out.1; have h3 := HQ.out.1; omega
    by_cases hlt : k < m2
    · have hkl : k < s.cards.length := by have := HQ.out.1; omega
      have hz : s.cards[k]? = some s.cards[k] := List.getElem?_eq_getElem hkl
      obtain ⟨z, hzz⟩ : ∃ z, s.cards[k] = z := ⟨_, rfl⟩
      rw [hzz] at hz
      obtain ⟨b1, o1, e1, hc1⟩ := crd_later (HQ.out.below HW.out.below) hz
      obtain ⟨b2, o2, e2, hc2⟩ := crd_later (HK.out.below HBr.out) hz
      subst e1 e2
      have HC1 := hid hc1; have HC2 := hid hc2
      clear hz hzz hc1 hc2 hkl
      go_wp2_with fail
      clear e11
      refine wp_region_held_drew (S := fun V => Boxed2 w #[.int .i64 s.wide, .int .i64 s.high, .int .i64 s.fall, .int .i64 s.a.lo, .int .i64 s.a.hi, .int .i64 s.b.lo, .int .i64 s.b.hi, .int .i64 s.half.lo, .int .i64 s.half.hi, .int .i64 s.peak.lo, .int .i64 s.peak.hi, .slice (some ⟨b1, o1, none⟩) m2 d] 35 #[.int .i64 s.wide, .int .i64 s.high, .int .i64 s.fall, .int .i64 s.a.lo, .int .i64 s.a.hi, .int .i64 s.b.lo, .int .i64 s.b.hi, .int .i64 s.half.lo, .int .i64 s.half.hi, .int .i64 s.peak.lo, .int .i64 s.peak.hi, .slice p n c] 26 V ∧ Below wr.heap.size wr V) (by kernel_rfl) (⟨HW.out.drew, (Below.refl _ _).drew⟩) (fun hS => ?_)
      simp only [List.size_toArray, List.length_cons, List.length_nil, Nat.reduceAdd, Array.replicate_succ, Array.replicate_zero, List.push_toArray, List.nil_append, List.cons_append]
      refine wpAnyH_take (i := 0) (v := ?_) rfl (by kernel_rfl) (by kernel_rfl) (by kernel_rfl) (fun _ _ _ h => h) (Or.inl ⟨by rfl, fun V hV => ?_⟩) (by assumption) ?_
      rotate_left
      · go_simp
        try with_reducible rfl
      try simp only [Act.put, List.getElem_toArray, List.getElem_cons_zero, List.setIfInBounds_toArray, List.set_cons_zero, List.set_cons_succ]
      refine wpAnyH_take (i := 1) (v := ?_) rfl (by kernel_rfl) (by kernel_rfl) (by kernel_rfl) (fun _ _ _ h => h) (Or.inl ⟨by rfl, fun V hV => ?_⟩) (by assumption) ?_
      rotate_left
      · have e11 := (StoAt.of hV.1.cell1).c11; go_simp
        try with_reducible rfl
      try simp only [Act.put, List.getElem_toArray, List.getElem_cons_zero, List.getElem_cons_succ, List.setIfInBounds_toArray, List.set_cons_zero, List.set_cons_succ]
      refine wpAnyH_take (i := 2) (v := ?_) rfl (by kernel_rfl) (by kernel_rfl) (by kernel_rfl) (fun _ _ _ h => h) (Or.inl ⟨by rfl, fun V hV => ?_⟩) (by assumption) ?_
      rotate_left
      · go_simp
        try with_reducible rfl
      try simp only [Act.put, List.getElem_toArray, List.getElem_cons_zero, List.getElem_cons_succ, List.setIfInBounds_toArray, List.set_cons_zero, List.set_cons_succ]
      refine wpAnyH_take (i := 3) (v := ?_) rfl (by kernel_rfl) (by kernel_rfl) (by kernel_rfl) (fun _ _ _ h => h) (Or.inl ⟨by rfl, fun V hV => ?_⟩) (by assumption) ?_
      rotate_left
      · go_simp
        try with_reducible rfl
      try simp only [Act.put, List.getElem_toArray, List.getElem_cons_zero, List.getElem_cons_succ, List.setIfInBounds_toArray, List.set_cons_zero, List.set_cons_succ]
      refine wpAnyH_take (i := 4) (v := ?_) rfl (by kernel_rfl) (by kernel_rfl) (by kernel_rfl) (fun _ _ _ h => h) (Or.inl ⟨by rfl, fun V hV => ?_⟩) (by assumption) ?_
      rotate_left
      · obtain ⟨c0, c1, c2, c3, c4, c5, c6⟩ := HC1.out V hV.2; go_simp
        try with_reducible rfl
      try simp only [Act.put, List.getElem_toArray, List.getElem_cons_zero, List.getElem_cons_succ, List.setIfInBounds_toArray, List.set_cons_zero, List.set_cons_succ]
      refine wpAnyH_take (i := 5) (v := ?_) rfl (by kernel_rfl) (by kernel_rfl) (by kernel_rfl) (fun _ _ _ h => h) (Or.inl ⟨by rfl, fun V hV => ?_⟩) (by assumption) ?_
      rotate_left
      · go_simp
        try with_reducible rfl
      try simp only [Act.put, List.getElem_toArray, List.getElem_cons_zero, List.getElem_cons_succ, List.setIfInBounds_toArray, List.set_cons_zero, List.set_cons_succ]
      refine wpAnyH_take (i := 6) (v := ?_) rfl (by kernel_rfl) (by kernel_rfl) (by kernel_rfl) (fun _ _ _ h => h) (Or.inl ⟨by rfl, fun V hV => ?_⟩) (by assumption) ?_
      rotate_left
      · have g11 := ((HX.out.below HBr.out).below hV.2).2 11 _ rfl; have g12 := g11.1; go_simp
        try with_reducible rfl
      try simp only [Act.put, List.getElem_toArray, List.getElem_cons_zero, List.getElem_cons_succ, List.setIfInBounds_toArray, List.set_cons_zero, List.set_cons_succ]
      refine wpAnyH_take (i := 7) (v := ?_) rfl (by kernel_rfl) (by kernel_rfl) (by kernel_rfl) (fun _ _ _ h => h) (Or.inl ⟨by rfl, fun V hV => ?_⟩) (by assumption) ?_
      rotate_left
      · go_simp
        try with_reducible rfl
      try simp only [Act.put, List.getElem_toArray, List.getElem_cons_zero, List.getElem_cons_succ, List.setIfInBounds_toArray, List.set_cons_zero, List.set_cons_succ]
      refine wpAnyH_take (i := 8) (v := ?_) rfl (by kernel_rfl) (by kernel_rfl) (by kernel_rfl) (fun _ _ _ h => h) (Or.inl ⟨by rfl, fun V hV => ?_⟩) (by assumption) ?_
      rotate_left
      · go_simp
        try with_reducible rfl
      try simp only [Act.put, List.getElem_toArray, List.getElem_cons_zero, List.getElem_cons_succ, List.setIfInBounds_toArray, List.set_cons_zero, List.set_cons_succ]
      refine wpAnyH_take (i := 9) (v := ?_) rfl (by kernel_rfl) (by kernel_rfl) (by kernel_rfl) (fun _ _ _ h => h) (Or.inl ⟨by rfl, fun V hV => ?_⟩) (by assumption) ?_
      rotate_left
      · obtain ⟨c0, c1, c2, c3, c4, c5, c6⟩ := HC2.out V hV.2; go_simp
        try with_reducible rfl
      try simp only [Act.put, List.getElem_toArray, List.getElem_cons_zero, List.getElem_cons_succ, List.setIfInBounds_toArray, List.set_cons_zero, List.set_cons_succ]
      refine wpAnyH_take (i := 10) (v := ?_) rfl (by kernel_rfl) (by kernel_rfl) (by kernel_rfl) (fun _ _ _ h => h) (Or.inl ⟨by rfl, fun V hV => ?_⟩) (by assumption) ?_
      rotate_left
      · go_simp
        try with_reducible rfl
      try simp only [Act.put, List.getElem_toArray, List.getElem_cons_zero, List.getElem_cons_succ, List.setIfInBounds_toArray, List.set_cons_zero, List.set_cons_succ]
      refine wpAnyH_done (by kernel_rfl) ?_ _
      have HS9 := hid hS.1; have HB9 := hid hS.2
      clear hS
      go_wp2_with fail
      go_roundw
      case rel => exact ⟨k + 1, by omega, by go_num, HS9.out, HBr.out.trans (HB9.out.mono HBr.out.size)⟩
      case measure => simp [intOf]; omega
    · go_wp2_with fail
      go_ret
      exact ⟨rfl, HW.out.below⟩

set_option maxRecDepth 40000 in
set_option maxHeartbeats 16000000 in
theorem empty57_any (q : Option Addr) (m d : Nat) (w : World) (hq : CrdsAt w q m []) :
    Calls Try.prog 57 #[.agg #[.int .i64 0, .int .i64 0, .int .i64 0, .int .i64 0, .int .i64 0, .int .i64 0, .int .i64 0, .int .i64 0, .int .i64 0, .int .i64 0, .int .i64 0, .slice q m d]] w fun e w' => e = .returned (.bool true) ∧ Below w.heap.size w w' := by
  have hm : m = 0 := hq.1
  subst hm
  have HS := hid (fun (W : World) => same_any zeroS q 0 d none 0 0 W ⟨rfl, fun i k h => by simp [zeroS] at h⟩ ⟨rfl, fun i k h => by simp [zeroS] at h⟩ (by omega))
  have H0 : Hid (Below w.heap.size w (w.alloc (.cells #[.int .i64 0, .int .i64 0, .int .i64 0, .int .i64 0, .int .i64 0, .int .i64 0, .int .i64 0, .int .i64 0, .int .i64 0, .int .i64 0, .int .i64 0, .slice q 0 d] 35))) := hid ((Below.refl _ _).alloc (Nat.le_refl _) _)
  clear hq
  go_enter Try.func57, Try.ntmps57
  go_wp2_with fail
  refine (HS.out _).mono ?_
  rintro e w1 ⟨rfl, hb⟩
  go_wp2_with fail
  go_ret
  exact ⟨rfl, H0.out.trans (hb.mono H0.out.size)⟩
end Go.Proofs.Ytfnefkenheglhaa
