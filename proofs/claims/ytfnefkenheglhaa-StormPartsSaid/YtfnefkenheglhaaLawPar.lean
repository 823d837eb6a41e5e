/- StormParts: a rectangle that is inside, or outside, has only parts that are so; two that together are a rectangle, and are both so, make one that is so. For each storm and each two words. -/
import Derived.Test.YtfnefkenheglhaaLawB
import Derived.Test.YtfnefkenheglhaaLawAwake
import Derived.Test.YtfnefkenheglhaaPlP
namespace Go.Proofs.Ytfnefkenheglhaa
open Go.RowKit

theorem sure_eq {s : Sto} (ok : OkS s) {fine : Bool} (hf : fine = true) : sureE s fine = if truthL s = [] then 11 else 0 := by
  rw [sureE, if_pos (fault_iff.2 ok), if_pos hf]

set_option maxRecDepth 40000 in
set_option maxHeartbeats 16000000 in
theorem stormParts_any (s : Sto) (p : Option Addr) (n c : Nat) (wv av : Int) (w : World) (hcs : CrdsAt w p n s.cards) (hwv : 0 ≤ wv ∧ wv ≤ 65535) (hav : 0 ≤ av ∧ av ≤ 255) :
    Calls Try.prog 10 #[.agg #[.int .i64 s.wide, .int .i64 s.high, .int .i64 s.fall, .int .i64 s.a.lo, .int .i64 s.a.hi, .int .i64 s.b.lo, .int .i64 s.b.hi, .int .i64 s.half.lo, .int .i64 s.half.hi, .int .i64 s.peak.lo, .int .i64 s.peak.hi, .slice p n c], .int .u16 wv, .int .u8 av] w fun e w' => e = .returned (.bool true) ∧ Below w.heap.size w w' := by
  have HC := hid hcs; have HWV := hid hwv; have HAV := hid hav
  have HRD := hid (fun W (hb : Below w.heap.size w W) => ready_any s p n c W (hcs.below hb))
  have HU8 : Hid (IntKind.u8.wrap (av % 2) = av % 2) := hid (by
    have h1 := Int.emod_nonneg av (show (2 : Int) ≠ 0 by omega); have h2 := Int.emod_lt_of_pos av (show (0 : Int) < 2 by omega)
    have : av % 2 = 0 ∨ av % 2 = 1 := by omega
    rcases this with h | h <;> rw [h] <;> rfl)
  clear hcs hwv hav
  have H0 : Hid (Boxed1 w #[.int .i64 s.wide, .int .i64 s.high, .int .i64 s.fall, .int .i64 s.a.lo, .int .i64 s.a.hi, .int .i64 s.b.lo, .int .i64 s.b.hi, .int .i64 s.half.lo, .int .i64 s.half.hi, .int .i64 s.peak.lo, .int .i64 s.peak.hi, .slice p n c] 26 (w.alloc (.cells #[.int .i64 s.wide, .int .i64 s.high, .int .i64 s.fall, .int .i64 s.a.lo, .int .i64 s.a.hi, .int .i64 s.b.lo, .int .i64 s.b.hi, .int .i64 s.half.lo, .int .i64 s.half.hi, .int .i64 s.peak.lo, .int .i64 s.peak.hi, .slice p n c] 26))) := Boxed1.start _ _ _
  go_enter Try.func10, Try.ntmps10
  go_wp2_with fail
  (with_reducible refine (HRD.out _ ?_).mono ?_)
  · exact H0.out.below
  rintro e w1 ⟨rfl, hb⟩
  have H1 := hid (H0.out.step hb)
  clear hb
  cases hrd : readyB s
  · clear hrd
    go_wp2_with fail
    refine (awake_any _).mono ?_
    rintro e w9 ⟨rfl, hb9⟩
    go_wp2_with fail
    go_ret
    exact ⟨rfl, H1.out.below.trans (hb9.mono H1.out.below.size)⟩
  · have HOK := hid (ready_iff.1 hrd).1
    have HN : Hid (n ≤ 1000) := hid (by have := HC.out.1; have := HOK.out.n6; omega)
    have HRC := hid (box_in HOK.out HWV.out.1)
    clear hrd
    have e0 := (StoAt.of H1.out.cell).c0; have e1 := (StoAt.of H1.out.cell).c1; have e2 := (StoAt.of H1.out.cell).c2; have e3 := (StoAt.of H1.out.cell).c3; have e4 := (StoAt.of H1.out.cell).c4; have e5 := (StoAt.of H1.out.cell).c5; have e6 := (StoAt.of H1.out.cell).c6; have e7 := (StoAt.of H1.out.cell).c7; have e8 := (StoAt.of H1.out.cell).c8; have e9 := (StoAt.of H1.out.cell).c9; have e10 := (StoAt.of H1.out.cell).c10; have e11 := (StoAt.of H1.out.cell).c11
    go_wp2_with fail
    (with_reducible refine (box_any s p n c wv _ HOK.out HWV.out.1 HWV.out.2).mono ?_)
    rintro e w2 ⟨rfl, hb⟩
    have H2 := hid (H1.out.step hb)
    clear hb e0 e1 e2 e3 e4 e5 e6 e7 e8 e9 e10 e11
    obtain ⟨x, hx⟩ : ∃ x, boxX s wv = x := ⟨_, rfl⟩
    obtain ⟨y, hy⟩ : ∃ y, boxY s wv = y := ⟨_, rfl⟩
    rw [hx, hy] at HRC ⊢
    clear hx hy
    have HXI : Hid (x.lo ≤ x.hi ∧ True ∧ y.lo ≤ y.hi) := hid (by
      have h := HRC.out; rw [rectB, Bool.and_eq_true, Rng.of_iff, Rng.of_iff] at h
      exact ⟨h.1.2.1, trivial, h.2.2.1⟩)
    have HRB : Hid ((0 ≤ x.lo ∧ x.lo ≤ x.hi ∧ x.hi ≤ 11 ∧ 0 ≤ y.lo ∧ y.lo ≤ y.hi ∧ y.hi ≤ 11)) := hid (by
      have h := HRC.out; rw [rectB, Bool.and_eq_true, Rng.of_iff, Rng.of_iff] at h
      have := HOK.out.w12; have := HOK.out.h12
      omega)
    obtain ⟨W3, hW3⟩ : ∃ V, w2.alloc (.cells #[.int .i64 x.lo, .int .i64 x.hi, .int .i64 y.lo, .int .i64 y.hi] 64) = V := ⟨_, rfl⟩
    have HW3 : Hid (Boxed1 w #[.int .i64 s.wide, .int .i64 s.high, .int .i64 s.fall, .int .i64 s.a.lo, .int .i64 s.a.hi, .int .i64 s.b.lo, .int .i64 s.b.hi, .int .i64 s.half.lo, .int .i64 s.half.hi, .int .i64 s.peak.lo, .int .i64 s.peak.hi, .slice p n c] 26 W3) := by show Boxed1 _ _ _ _; rw [← hW3]; exact H2.out.alloc _
    have HX3 : Hid (BoxIs w2.heap.size #[.int .i64 x.lo, .int .i64 x.hi, .int .i64 y.lo, .int .i64 y.hi] W3) := by show BoxIs _ _ _; rw [← hW3]; exact BoxIs.start _ _ _
    by_cases hL : truthL s = []
    · have HVE : Hid (sureE s (rectB s x y) = 11) := by show _ = _; rw [sure_eq HOK.out HRC.out, if_pos hL]
      have HVV : Hid (verdV s x y = 0) := by show _ = _; rw [verdV, if_neg (by rw [HVE.out]; decide)]
      clear hL
      go_upto_region 4 with fail
      clear hW3
      refine wp_region_held_drew (S := fun V => Boxed1 w #[.int .i64 s.wide, .int .i64 s.high, .int .i64 s.fall, .int .i64 s.a.lo, .int .i64 s.a.hi, .int .i64 s.b.lo, .int .i64 s.b.hi, .int .i64 s.half.lo, .int .i64 s.half.hi, .int .i64 s.peak.lo, .int .i64 s.peak.hi, .slice p n c] 26 V ∧ Below W3.heap.size W3 V) (by kernel_rfl) (⟨HW3.out.drew, (Below.refl _ _).drew⟩) (fun hS => ?_)
      simp only [List.size_toArray, List.length_cons, List.length_nil, Nat.reduceAdd, Array.replicate_succ, Array.replicate_zero, List.push_toArray, List.nil_append, List.cons_append]
      refine wpAnyH_take (i := 0) (v := ?_) rfl (by kernel_rfl) (by kernel_rfl) (by kernel_rfl) (fun _ _ _ h => h) (Or.inl ⟨by rfl, fun V hV => ?_⟩) (by assumption) ?_
      rotate_left
      · have e0 := (StoAt.of hV.1.cell).c0; have e1 := (StoAt.of hV.1.cell).c1; have e2 := (StoAt.of hV.1.cell).c2; have e3 := (StoAt.of hV.1.cell).c3; have e4 := (StoAt.of hV.1.cell).c4; have e5 := (StoAt.of hV.1.cell).c5; have e6 := (StoAt.of hV.1.cell).c6; have e7 := (StoAt.of hV.1.cell).c7; have e8 := (StoAt.of hV.1.cell).c8; have e9 := (StoAt.of hV.1.cell).c9; have e10 := (StoAt.of hV.1.cell).c10; have e11 := (StoAt.of hV.1.cell).c11; go_simp
        try with_reducible rfl
      try simp only [Act.put, List.getElem_toArray, List.getElem_cons_zero, List.setIfInBounds_toArray, List.set_cons_zero, List.set_cons_succ]
      refine wpAnyH_take (i := 2) (v := ?_) rfl (by kernel_rfl) (by kernel_rfl) (by kernel_rfl) (fun _ _ _ h => h) (Or.inl ⟨by rfl, fun V hV => ?_⟩) (by assumption) ?_
      rotate_left
      · have hX := HX3.out.below hV.2; have d0 := (hX.2 0 (.int .i64 x.lo) rfl).1; have d1 := (hX.2 1 (.int .i64 x.hi) rfl).1; have d2 := (hX.2 2 (.int .i64 y.lo) rfl).1; have d3 := (hX.2 3 (.int .i64 y.hi) rfl).1; go_simp
        try with_reducible rfl
      try simp only [Act.put, List.getElem_toArray, List.getElem_cons_zero, List.getElem_cons_succ, List.setIfInBounds_toArray, List.set_cons_zero, List.set_cons_succ]
      refine wpAnyH_ready (rs := [1]) (by kernel_rfl) (by simp) ?_
      refine AllReadyH.cons (o := _) rfl (fun K hK => ?_) AllReadyH.nil
      go_simp
      refine (storm20_any s p n c _ (HC.out.below hS.1.below) HN.out).mono ?_
      rintro e s1 ⟨q9, m9, d9, rfl, hc9, hb⟩
      have HQ9 := hid hc9
      refine hK.out _ _ (⟨hS.1.step hb, hS.2.trans (hb.mono hS.2.size)⟩) (fun hS => ?_)
      clear hK K
      try simp only [List.setIfInBounds_toArray, List.set_cons_zero, List.set_cons_succ]
      refine wpAnyH_ready (rs := [3]) (by kernel_rfl) (by simp) ?_
      refine AllReadyH.cons (o := _) rfl (fun K hK => ?_) AllReadyH.nil
      go_simp
      (with_reducible refine (rect40_any x y _).mono ?_)
      rintro e s3 ⟨rfl, hb3⟩
      have HQ9 := hid (HQ9.out.below hb3)
      refine hK.out _ _ (⟨hS.1.step hb3, hS.2.trans (hb3.mono hS.2.size)⟩) (fun hS => ?_)
      clear hK K
      try simp only [List.setIfInBounds_toArray, List.set_cons_zero, List.set_cons_succ]
      refine wpAnyH_ready (rs := [4]) (by kernel_rfl) (by simp) ?_
      refine AllReadyH.cons (o := _) rfl (fun K hK => ?_) AllReadyH.nil
      go_simp
      refine (verdict_any s q9 m9 d9 x y _ HQ9.out).mono ?_
      rintro e s4 ⟨rfl, hb4⟩
      rw [HVV.out, HVE.out]
      refine hK.out _ _ (⟨hS.1.step hb4, hS.2.trans (hb4.mono hS.2.size)⟩) (fun hS => ?_)
      clear hK K
      try simp only [List.setIfInBounds_toArray, List.set_cons_zero, List.set_cons_succ]
      refine wpAnyH_take (i := 5) (v := ?_) rfl (by kernel_rfl) (by kernel_rfl) (by kernel_rfl) (fun _ _ _ h => h) (Or.inl ⟨by rfl, fun V hV => ?_⟩) (by assumption) ?_
      rotate_left
      · go_simp
        try with_reducible rfl
      try simp only [Act.put, List.getElem_toArray, List.getElem_cons_zero, List.getElem_cons_succ, List.setIfInBounds_toArray, List.set_cons_zero, List.set_cons_succ]
      refine wpAnyH_take (i := 6) (v := ?_) rfl (by kernel_rfl) (by kernel_rfl) (by kernel_rfl) (fun _ _ _ h => h) (Or.inl ⟨by rfl, fun V hV => ?_⟩) (by assumption) ?_
      rotate_left
      · go_simp
        try with_reducible rfl
      try simp only [Act.put, List.getElem_toArray, List.getElem_cons_zero, List.getElem_cons_succ, List.setIfInBounds_toArray, List.set_cons_zero, List.set_cons_succ]
      refine wpAnyH_take (i := 7) (v := ?_) rfl (by kernel_rfl) (by kernel_rfl) (by kernel_rfl) (fun _ _ _ h => h) (Or.inl ⟨by rfl, fun V hV => ?_⟩) (by assumption) ?_
      rotate_left
      · go_simp
        try with_reducible rfl
      try simp only [Act.put, List.getElem_toArray, List.getElem_cons_zero, List.getElem_cons_succ, List.setIfInBounds_toArray, List.set_cons_zero, List.set_cons_succ]
      refine wpAnyH_take (i := 8) (v := ?_) rfl (by kernel_rfl) (by kernel_rfl) (by kernel_rfl) (fun _ _ _ h => h) (Or.inl ⟨by rfl, fun V hV => ?_⟩) (by assumption) ?_
      rotate_left
      · go_simp
        try with_reducible rfl
      try simp only [Act.put, List.getElem_toArray, List.getElem_cons_zero, List.getElem_cons_succ, List.setIfInBounds_toArray, List.set_cons_zero, List.set_cons_succ]
      refine wpAnyH_take (i := 9) (v := ?_) rfl (by kernel_rfl) (by kernel_rfl) (by kernel_rfl) (fun _ _ _ h => h) (Or.inl ⟨by rfl, fun V hV => ?_⟩) (by assumption) ?_
      rotate_left
      · go_simp
        try with_reducible rfl
      try simp only [Act.put, List.getElem_toArray, List.getElem_cons_zero, List.getElem_cons_succ, List.setIfInBounds_toArray, List.set_cons_zero, List.set_cons_succ]
      refine wpAnyH_done (by kernel_rfl) ?_ _
      have HW4 := hid hS.1
      clear hS
      go_wp2_with fail
      refine (awake_any _).mono ?_
      rintro e w9 ⟨rfl, hb9⟩
      go_wp2_with fail
      go_ret
      exact ⟨rfl, HW4.out.below.trans (hb9.mono HW4.out.below.size)⟩
    · have HLNE := hid hL
      have HVE : Hid (sureE s (rectB s x y) = 0) := by show _ = _; rw [sure_eq HOK.out HRC.out, if_neg hL]
      have HVV : Hid (verdV s x y = verdT s (truthL s) x y) := by show _ = _; rw [verdV, if_pos HVE.out]
      clear hL
      go_upto_region 4 with fail
      clear hW3
      refine wp_region_held_drew (S := fun V => Boxed1 w #[.int .i64 s.wide, .int .i64 s.high, .int .i64 s.fall, .int .i64 s.a.lo, .int .i64 s.a.hi, .int .i64 s.b.lo, .int .i64 s.b.hi, .int .i64 s.half.lo, .int .i64 s.half.hi, .int .i64 s.peak.lo, .int .i64 s.peak.hi, .slice p n c] 26 V ∧ Below W3.heap.size W3 V) (by kernel_rfl) (⟨HW3.out.drew, (Below.refl _ _).drew⟩) (fun hS => ?_)
      simp only [List.size_toArray, List.length_cons, List.length_nil, Nat.reduceAdd, Array.replicate_succ, Array.replicate_zero, List.push_toArray, List.nil_append, List.cons_append]
      refine wpAnyH_take (i := 0) (v := ?_) rfl (by kernel_rfl) (by kernel_rfl) (by kernel_rfl) (fun _ _ _ h => h) (Or.inl ⟨by rfl, fun V hV => ?_⟩) (by assumption) ?_
      rotate_left
      · have e0 := (StoAt.of hV.1.cell).c0; have e1 := (StoAt.of hV.1.cell).c1; have e2 := (StoAt.of hV.1.cell).c2; have e3 := (StoAt.of hV.1.cell).c3; have e4 := (StoAt.of hV.1.cell).c4; have e5 := (StoAt.of hV.1.cell).c5; have e6 := (StoAt.of hV.1.cell).c6; have e7 := (StoAt.of hV.1.cell).c7; have e8 := (StoAt.of hV.1.cell).c8; have e9 := (StoAt.of hV.1.cell).c9; have e10 := (StoAt.of hV.1.cell).c10; have e11 := (StoAt.of hV.1.cell).c11; go_simp
        try with_reducible rfl
      try simp only [Act.put, List.getElem_toArray, List.getElem_cons_zero, List.setIfInBounds_toArray, List.set_cons_zero, List.set_cons_succ]
      refine wpAnyH_take (i := 2) (v := ?_) rfl (by kernel_rfl) (by kernel_rfl) (by kernel_rfl) (fun _ _ _ h => h) (Or.inl ⟨by rfl, fun V hV => ?_⟩) (by assumption) ?_
      rotate_left
      · have hX := HX3.out.below hV.2; have d0 := (hX.2 0 (.int .i64 x.lo) rfl).1; have d1 := (hX.2 1 (.int .i64 x.hi) rfl).1; have d2 := (hX.2 2 (.int .i64 y.lo) rfl).1; have d3 := (hX.2 3 (.int .i64 y.hi) rfl).1; go_simp
        try with_reducible rfl
      try simp only [Act.put, List.getElem_toArray, List.getElem_cons_zero, List.getElem_cons_succ, List.setIfInBounds_toArray, List.set_cons_zero, List.set_cons_succ]
      refine wpAnyH_ready (rs := [1]) (by kernel_rfl) (by simp) ?_
      refine AllReadyH.cons (o := _) rfl (fun K hK => ?_) AllReadyH.nil
      go_simp
      refine (storm20_any s p n c _ (HC.out.below hS.1.below) HN.out).mono ?_
      rintro e s1 ⟨q9, m9, d9, rfl, hc9, hb⟩
      have HQ9 := hid hc9
      refine hK.out _ _ (⟨hS.1.step hb, hS.2.trans (hb.mono hS.2.size)⟩) (fun hS => ?_)
      clear hK K
      try simp only [List.setIfInBounds_toArray, List.set_cons_zero, List.set_cons_succ]
      refine wpAnyH_ready (rs := [3]) (by kernel_rfl) (by simp) ?_
      refine AllReadyH.cons (o := _) rfl (fun K hK => ?_) AllReadyH.nil
      go_simp
      (with_reducible refine (rect40_any x y _).mono ?_)
      rintro e s3 ⟨rfl, hb3⟩
      have HQ9 := hid (HQ9.out.below hb3)
      refine hK.out _ _ (⟨hS.1.step hb3, hS.2.trans (hb3.mono hS.2.size)⟩) (fun hS => ?_)
      clear hK K
      try simp only [List.setIfInBounds_toArray, List.set_cons_zero, List.set_cons_succ]
      refine wpAnyH_ready (rs := [4]) (by kernel_rfl) (by simp) ?_
      refine AllReadyH.cons (o := _) rfl (fun K hK => ?_) AllReadyH.nil
      go_simp
      refine (verdict_any s q9 m9 d9 x y _ HQ9.out).mono ?_
      rintro e s4 ⟨rfl, hb4⟩
      rw [HVV.out, HVE.out]
      refine hK.out _ _ (⟨hS.1.step hb4, hS.2.trans (hb4.mono hS.2.size)⟩) (fun hS => ?_)
      clear hK K
      try simp only [List.setIfInBounds_toArray, List.set_cons_zero, List.set_cons_succ]
      refine wpAnyH_take (i := 5) (v := ?_) rfl (by kernel_rfl) (by kernel_rfl) (by kernel_rfl) (fun _ _ _ h => h) (Or.inl ⟨by rfl, fun V hV => ?_⟩) (by assumption) ?_
      rotate_left
      · go_simp
        try with_reducible rfl
      try simp only [Act.put, List.getElem_toArray, List.getElem_cons_zero, List.getElem_cons_succ, List.setIfInBounds_toArray, List.set_cons_zero, List.set_cons_succ]
      refine wpAnyH_take (i := 6) (v := ?_) rfl (by kernel_rfl) (by kernel_rfl) (by kernel_rfl) (fun _ _ _ h => h) (Or.inl ⟨by rfl, fun V hV => ?_⟩) (by assumption) ?_
      rotate_left
      · go_simp
        try with_reducible rfl
      try simp only [Act.put, List.getElem_toArray, List.getElem_cons_zero, List.getElem_cons_succ, List.setIfInBounds_toArray, List.set_cons_zero, List.set_cons_succ]
      refine wpAnyH_take (i := 7) (v := ?_) rfl (by kernel_rfl) (by kernel_rfl) (by kernel_rfl) (fun _ _ _ h => h) (Or.inl ⟨by rfl, fun V hV => ?_⟩) (by assumption) ?_
      rotate_left
      · go_simp
        try with_reducible rfl
      try simp only [Act.put, List.getElem_toArray, List.getElem_cons_zero, List.getElem_cons_succ, List.setIfInBounds_toArray, List.set_cons_zero, List.set_cons_succ]
      refine wpAnyH_take (i := 8) (v := ?_) rfl (by kernel_rfl) (by kernel_rfl) (by kernel_rfl) (fun _ _ _ h => h) (Or.inl ⟨by rfl, fun V hV => ?_⟩) (by assumption) ?_
      rotate_left
      · go_simp
        try with_reducible rfl
      try simp only [Act.put, List.getElem_toArray, List.getElem_cons_zero, List.getElem_cons_succ, List.setIfInBounds_toArray, List.set_cons_zero, List.set_cons_succ]
      refine wpAnyH_take (i := 9) (v := ?_) rfl (by kernel_rfl) (by kernel_rfl) (by kernel_rfl) (fun _ _ _ h => h) (Or.inl ⟨by rfl, fun V hV => ?_⟩) (by assumption) ?_
      rotate_left
      · go_simp
        try with_reducible rfl
      try simp only [Act.put, List.getElem_toArray, List.getElem_cons_zero, List.getElem_cons_succ, List.setIfInBounds_toArray, List.set_cons_zero, List.set_cons_succ]
      refine wpAnyH_done (by kernel_rfl) ?_ _
      have HW4 := hid hS.1; have HX4 := hid (HX3.out.below hS.2)
      clear hS
      go_upto_region 7 with fail
      generalize s4 = W4 at HW4 HX4 ⊢
      go_cut [10, 11] from 18 (fun a3 b3 wr => ∃ ba bb, a3 = .pointer (some ⟨ba, 0, none⟩) ∧ b3 = .pointer (some ⟨bb, 0, none⟩) ∧ BoxIs ba #[.int .i64 x.lo, .int .i64 x.hi, .int .i64 y.lo, .int .i64 y.hi] wr ∧ BoxIs bb #[.int .i64 x.lo, .int .i64 x.hi, .int .i64 y.lo, .int .i64 y.hi] wr ∧ ba ≠ bb ∧ w.heap.size + 1 ≤ ba ∧ w.heap.size + 1 ≤ bb ∧ Boxed1 w #[.int .i64 s.wide, .int .i64 s.high, .int .i64 s.fall, .int .i64 s.a.lo, .int .i64 s.a.hi, .int .i64 s.b.lo, .int .i64 s.b.hi, .int .i64 s.half.lo, .int .i64 s.half.hi, .int .i64 s.peak.lo, .int .i64 s.peak.hi, .slice p n c] 26 wr ∧ BoxIs w2.heap.size #[.int .i64 x.lo, .int .i64 x.hi, .int .i64 y.lo, .int .i64 y.hi] wr ∧ w2.heap.size ≠ ba ∧ w2.heap.size ≠ bb)
      case first =>
        obtain ⟨W4d, hW4d⟩ : ∃ V, W4.drew = V := ⟨_, rfl⟩
        have HW4 := hid HW4.out.drew; have HX4 := hid (HX4.out.below (Below.refl _ _).drew)
        rw [hW4d] at HW4 HX4
        refine wp_region_held_drew (S := fun V => Boxed1 w #[.int .i64 s.wide, .int .i64 s.high, .int .i64 s.fall, .int .i64 s.a.lo, .int .i64 s.a.hi, .int .i64 s.b.lo, .int .i64 s.b.hi, .int .i64 s.half.lo, .int .i64 s.half.hi, .int .i64 s.peak.lo, .int .i64 s.peak.hi, .slice p n c] 26 V ∧ Below W4d.heap.size W4d V) (by kernel_rfl) (by rw [hW4d]; exact ⟨HW4.out, Below.refl _ _⟩) (fun hS => ?_)
        rw [hW4d] at hS ⊢
        clear hW4d
        simp only [List.size_toArray, List.length_cons, List.length_nil, Nat.reduceAdd, Array.replicate_succ, Array.replicate_zero, List.push_toArray, List.nil_append, List.cons_append]
        refine wpAnyH_take (i := 0) (v := ?_) rfl (by kernel_rfl) (by kernel_rfl) (by kernel_rfl) (fun _ _ _ h => h) (Or.inl ⟨by rfl, fun V hV => ?_⟩) (by assumption) ?_
        rotate_left
        · have hX := HX4.out.below hV.2; have d0 := (hX.2 0 (.int .i64 x.lo) rfl).1; have d1 := (hX.2 1 (.int .i64 x.hi) rfl).1; have d2 := (hX.2 2 (.int .i64 y.lo) rfl).1; have d3 := (hX.2 3 (.int .i64 y.hi) rfl).1; go_simp
          try with_reducible rfl
        try simp only [Act.put, List.getElem_toArray, List.getElem_cons_zero, List.setIfInBounds_toArray, List.set_cons_zero, List.set_cons_succ]
        refine wpAnyH_take (i := 1) (v := ?_) rfl (by kernel_rfl) (by kernel_rfl) (by kernel_rfl) (fun _ _ _ h => h) (Or.inl ⟨by rfl, fun V hV => ?_⟩) (by assumption) ?_
        rotate_left
        · have hX := HX4.out.below hV.2; have d0 := (hX.2 0 (.int .i64 x.lo) rfl).1; have d1 := (hX.2 1 (.int .i64 x.hi) rfl).1; have d2 := (hX.2 2 (.int .i64 y.lo) rfl).1; have d3 := (hX.2 3 (.int .i64 y.hi) rfl).1; go_simp
          try with_reducible rfl
        try simp only [Act.put, List.getElem_toArray, List.getElem_cons_zero, List.getElem_cons_succ, List.setIfInBounds_toArray, List.set_cons_zero, List.set_cons_succ]
        refine wpAnyH_ready (rs := [2, 3]) (by kernel_rfl) (by simp) ?_
        refine AllReadyH.cons (o := _) rfl (fun K hK => ?_) ?_
        · skip
          obtain ⟨v2, hv2⟩ : ∃ V, W4d.alloc (.cells #[.int .i64 0, .int .i64 0, .int .i64 0, .int .i64 0] 64) = V := ⟨_, rfl⟩
          have hb : Below W4d.heap.size W4d v2 := by rw [← hv2]; exact (Below.refl _ _).alloc (Nat.le_refl _) _
          have HN2 : Hid (BoxIs W4d.heap.size #[.int .i64 0, .int .i64 0, .int .i64 0, .int .i64 0] v2) := by show BoxIs _ _ _; rw [← hv2]; exact BoxIs.start _ _ _
          have HL2 : Hid (W4d.heap.size ≤ W4d.heap.size) := hid hS.2.size
          go_simp
          refine hK.out _ _ (⟨hS.1.step hb, hS.2.trans (hb.mono hS.2.size)⟩) (fun hS => ?_)
          clear hK K
          try simp only [List.setIfInBounds_toArray, List.set_cons_zero, List.set_cons_succ]
          refine wpAnyH_ready (rs := [3]) (by kernel_rfl) (by simp) ?_
          refine AllReadyH.cons (o := _) rfl (fun K hK => ?_) AllReadyH.nil
          have HM3 : Hid (W4d.heap.size < v2.heap.size) := hid HN2.out.1
          obtain ⟨v3, hv3⟩ : ∃ V, v2.alloc (.cells #[.int .i64 0, .int .i64 0, .int .i64 0, .int .i64 0] 64) = V := ⟨_, rfl⟩
          have hb : Below v2.heap.size v2 v3 := by rw [← hv3]; exact (Below.refl _ _).alloc (Nat.le_refl _) _
          have HN2 := hid (HN2.out.below hb)
          have HN3 : Hid (BoxIs v2.heap.size #[.int .i64 0, .int .i64 0, .int .i64 0, .int .i64 0] v3) := by show BoxIs _ _ _; rw [← hv3]; exact BoxIs.start _ _ _
          have HL3 : Hid (W4d.heap.size ≤ v2.heap.size) := hid hS.2.size
          go_simp
          refine hK.out _ _ (⟨hS.1.step hb, hS.2.trans (hb.mono hS.2.size)⟩) (fun hS => ?_)
          clear hK K
          try simp only [List.setIfInBounds_toArray, List.set_cons_zero, List.set_cons_succ]
          refine wpAnyH_ready (rs := [4]) (by kernel_rfl) (by simp) ?_
          refine AllReadyH.cons (o := _) rfl (fun K hK => ?_) AllReadyH.nil
          have HNEQ : Hid (W4d.heap.size ≠ v2.heap.size) := hid (by have h1 := HM3.out; omega)
          have k0 := (HN2.out.2 0 (.int .i64 0) rfl).1; have f0 := (HN2.out.2 0 (.int .i64 0) rfl).2
          have k1 := (HN2.out.2 1 (.int .i64 0) rfl).1; have f1 := (HN2.out.2 1 (.int .i64 0) rfl).2
          have k2 := (HN2.out.2 2 (.int .i64 0) rfl).1; have f2 := (HN2.out.2 2 (.int .i64 0) rfl).2
          have k3 := (HN2.out.2 3 (.int .i64 0) rfl).1; have f3 := (HN2.out.2 3 (.int .i64 0) rfl).2
          have HP2 : Hid (BoxIs W4d.heap.size #[.int .i64 x.lo, .int .i64 x.hi, .int .i64 y.lo, .int .i64 y.hi] ((((v3.setCell ⟨W4d.heap.size, 0, none⟩ (.int .i64 x.lo)).setCell ⟨W4d.heap.size, 1, none⟩ (.int .i64 x.hi)).setCell ⟨W4d.heap.size, 2, none⟩ (.int .i64 y.lo)).setCell ⟨W4d.heap.size, 3, none⟩ (.int .i64 y.hi))) := hid ((((HN2.out.put (j := 0) (.int .i64 x.lo)).put (j := 1) (.int .i64 x.hi)).put (j := 2) (.int .i64 y.lo)).put (j := 3) (.int .i64 y.hi))
          have HO3 := hid ((((HN3.out.other (b' := W4d.heap.size) (k' := 0) (by have := HNEQ.out; omega) (.int .i64 x.lo)).other (b' := W4d.heap.size) (k' := 1) (by have := HNEQ.out; omega) (.int .i64 x.hi)).other (b' := W4d.heap.size) (k' := 2) (by have := HNEQ.out; omega) (.int .i64 y.lo)).other (b' := W4d.heap.size) (k' := 3) (by have := HNEQ.out; omega) (.int .i64 y.hi))
          have HSW := hid (hS.1.step' ((((((Below.refl W4d.heap.size v3).setCell (p := ⟨W4d.heap.size, 0, none⟩) HL2.out (.int .i64 x.lo)).setCell (p := ⟨W4d.heap.size, 1, none⟩) HL2.out (.int .i64 x.hi)).setCell (p := ⟨W4d.heap.size, 2, none⟩) HL2.out (.int .i64 y.lo)).setCell (p := ⟨W4d.heap.size, 3, none⟩) HL2.out (.int .i64 y.hi)).mono (by have := HW4.out.size; exact this)))
          have HSB := hid (hS.2.trans (((((Below.refl W4d.heap.size v3).setCell (p := ⟨W4d.heap.size, 0, none⟩) HL2.out (.int .i64 x.lo)).setCell (p := ⟨W4d.heap.size, 1, none⟩) HL2.out (.int .i64 x.hi)).setCell (p := ⟨W4d.heap.size, 2, none⟩) HL2.out (.int .i64 y.lo)).setCell (p := ⟨W4d.heap.size, 3, none⟩) HL2.out (.int .i64 y.hi)))
          clear hS
          go_simp
          clear k0 f0 k1 f1 k2 f2 k3 f3
          generalize ((((v3.setCell ⟨W4d.heap.size, 0, none⟩ (.int .i64 x.lo)).setCell ⟨W4d.heap.size, 1, none⟩ (.int .i64 x.hi)).setCell ⟨W4d.heap.size, 2, none⟩ (.int .i64 y.lo)).setCell ⟨W4d.heap.size, 3, none⟩ (.int .i64 y.hi)) = V4 at HP2 HO3 HSW HSB ⊢
          have HN2 := HP2; have HN3 := HO3
          refine hK.out _ _ (⟨HSW.out, HSB.out⟩) (fun hS => ?_)
          clear hK K
          try simp only [List.setIfInBounds_toArray, List.set_cons_zero, List.set_cons_succ]
          refine wpAnyH_ready (rs := [5]) (by kernel_rfl) (by simp) ?_
          refine AllReadyH.cons (o := _) rfl (fun K hK => ?_) AllReadyH.nil
          have k0 := (HN3.out.2 0 (.int .i64 0) rfl).1; have f0 := (HN3.out.2 0 (.int .i64 0) rfl).2
          have k1 := (HN3.out.2 1 (.int .i64 0) rfl).1; have f1 := (HN3.out.2 1 (.int .i64 0) rfl).2
          have k2 := (HN3.out.2 2 (.int .i64 0) rfl).1; have f2 := (HN3.out.2 2 (.int .i64 0) rfl).2
          have k3 := (HN3.out.2 3 (.int .i64 0) rfl).1; have f3 := (HN3.out.2 3 (.int .i64 0) rfl).2
          have HP3 : Hid (BoxIs v2.heap.size #[.int .i64 x.lo, .int .i64 x.hi, .int .i64 y.lo, .int .i64 y.hi] ((((V4.setCell ⟨v2.heap.size, 0, none⟩ (.int .i64 x.lo)).setCell ⟨v2.heap.size, 1, none⟩ (.int .i64 x.hi)).setCell ⟨v2.heap.size, 2, none⟩ (.int .i64 y.lo)).setCell ⟨v2.heap.size, 3, none⟩ (.int .i64 y.hi))) := hid ((((HN3.out.put (j := 0) (.int .i64 x.lo)).put (j := 1) (.int .i64 x.hi)).put (j := 2) (.int .i64 y.lo)).put (j := 3) (.int .i64 y.hi))
          have HO2 := hid ((((HN2.out.other (b' := v2.heap.size) (k' := 0) (by have := HNEQ.out; omega) (.int .i64 x.lo)).other (b' := v2.heap.size) (k' := 1) (by have := HNEQ.out; omega) (.int .i64 x.hi)).other (b' := v2.heap.size) (k' := 2) (by have := HNEQ.out; omega) (.int .i64 y.lo)).other (b' := v2.heap.size) (k' := 3) (by have := HNEQ.out; omega) (.int .i64 y.hi))
          have HSW := hid (hS.1.step' ((((((Below.refl W4d.heap.size V4).setCell (p := ⟨v2.heap.size, 0, none⟩) HL3.out (.int .i64 x.lo)).setCell (p := ⟨v2.heap.size, 1, none⟩) HL3.out (.int .i64 x.hi)).setCell (p := ⟨v2.heap.size, 2, none⟩) HL3.out (.int .i64 y.lo)).setCell (p := ⟨v2.heap.size, 3, none⟩) HL3.out (.int .i64 y.hi)).mono (by have := HW4.out.size; exact this)))
          have HSB := hid (hS.2.trans (((((Below.refl W4d.heap.size V4).setCell (p := ⟨v2.heap.size, 0, none⟩) HL3.out (.int .i64 x.lo)).setCell (p := ⟨v2.heap.size, 1, none⟩) HL3.out (.int .i64 x.hi)).setCell (p := ⟨v2.heap.size, 2, none⟩) HL3.out (.int .i64 y.lo)).setCell (p := ⟨v2.heap.size, 3, none⟩) HL3.out (.int .i64 y.hi)))
          clear hS
          go_simp
          clear k0 f0 k1 f1 k2 f2 k3 f3
          generalize ((((V4.setCell ⟨v2.heap.size, 0, none⟩ (.int .i64 x.lo)).setCell ⟨v2.heap.size, 1, none⟩ (.int .i64 x.hi)).setCell ⟨v2.heap.size, 2, none⟩ (.int .i64 y.lo)).setCell ⟨v2.heap.size, 3, none⟩ (.int .i64 y.hi)) = V5 at HP3 HO2 HSW HSB ⊢
          have HN3 := HP3; have HN2 := HO2
          refine hK.out _ _ (⟨HSW.out, HSB.out⟩) (fun hS => ?_)
          clear hK K
          try simp only [List.setIfInBounds_toArray, List.set_cons_zero, List.set_cons_succ]
          refine wpAnyH_done (by kernel_rfl) ?_ _
          go_wp2
          go_meet
          case rel => exact ⟨_, _, rfl, rfl, HN2.out, HN3.out, by have := HNEQ.out; omega, by have := HL2.out; have := HW4.out.size; omega, by have := HL3.out; have := HW4.out.size; omega, hS.1, HX4.out.below hS.2, by have := HL2.out; have := HX4.out.1; omega, by have := HL3.out; have := HX4.out.1; omega⟩
        refine AllReadyH.cons (o := _) rfl (fun K hK => ?_) AllReadyH.nil
        obtain ⟨v3, hv3⟩ : ∃ V, W4d.alloc (.cells #[.int .i64 0, .int .i64 0, .int .i64 0, .int .i64 0] 64) = V := ⟨_, rfl⟩
        have hb : Below W4d.heap.size W4d v3 := by rw [← hv3]; exact (Below.refl _ _).alloc (Nat.le_refl _) _
        have HN3 : Hid (BoxIs W4d.heap.size #[.int .i64 0, .int .i64 0, .int .i64 0, .int .i64 0] v3) := by show BoxIs _ _ _; rw [← hv3]; exact BoxIs.start _ _ _
        have HL3 : Hid (W4d.heap.size ≤ W4d.heap.size) := hid hS.2.size
        go_simp
        refine hK.out _ _ (⟨hS.1.step hb, hS.2.trans (hb.mono hS.2.size)⟩) (fun hS => ?_)
        clear hK K
        try simp only [List.setIfInBounds_toArray, List.set_cons_zero, List.set_cons_succ]
        refine wpAnyH_ready (rs := [2]) (by kernel_rfl) (by simp) ?_
        refine AllReadyH.cons (o := _) rfl (fun K hK => ?_) AllReadyH.nil
        have HM2 : Hid (W4d.heap.size < v3.heap.size) := hid HN3.out.1
        obtain ⟨v2, hv2⟩ : ∃ V, v3.alloc (.cells #[.int .i64 0, .int .i64 0, .int .i64 0, .int .i64 0] 64) = V := ⟨_, rfl⟩
        have hb : Below v3.heap.size v3 v2 := by rw [← hv2]; exact (Below.refl _ _).alloc (Nat.le_refl _) _
        have HN3 := hid (HN3.out.below hb)
        have HN2 : Hid (BoxIs v3.heap.size #[.int .i64 0, .int .i64 0, .int .i64 0, .int .i64 0] v2) := by show BoxIs _ _ _; rw [← hv2]; exact BoxIs.start _ _ _
        have HL2 : Hid (W4d.heap.size ≤ v3.heap.size) := hid hS.2.size
        go_simp
        refine hK.out _ _ (⟨hS.1.step hb, hS.2.trans (hb.mono hS.2.size)⟩) (fun hS => ?_)
        clear hK K
        try simp only [List.setIfInBounds_toArray, List.set_cons_zero, List.set_cons_succ]
        refine wpAnyH_ready (rs := [4]) (by kernel_rfl) (by simp) ?_
        refine AllReadyH.cons (o := _) rfl (fun K hK => ?_) AllReadyH.nil
        have HNEQ : Hid (W4d.heap.size ≠ v3.heap.size) := hid (by have h1 := HM2.out; omega)
        have k0 := (HN2.out.2 0 (.int .i64 0) rfl).1; have f0 := (HN2.out.2 0 (.int .i64 0) rfl).2
        have k1 := (HN2.out.2 1 (.int .i64 0) rfl).1; have f1 := (HN2.out.2 1 (.int .i64 0) rfl).2
        have k2 := (HN2.out.2 2 (.int .i64 0) rfl).1; have f2 := (HN2.out.2 2 (.int .i64 0) rfl).2
        have k3 := (HN2.out.2 3 (.int .i64 0) rfl).1; have f3 := (HN2.out.2 3 (.int .i64 0) rfl).2
        have HP2 : Hid (BoxIs v3.heap.size #[.int .i64 x.lo, .int .i64 x.hi, .int .i64 y.lo, .int .i64 y.hi] ((((v2.setCell ⟨v3.heap.size, 0, none⟩ (.int .i64 x.lo)).setCell ⟨v3.heap.size, 1, none⟩ (.int .i64 x.hi)).setCell ⟨v3.heap.size, 2, none⟩ (.int .i64 y.lo)).setCell ⟨v3.heap.size, 3, none⟩ (.int .i64 y.hi))) := hid ((((HN2.out.put (j := 0) (.int .i64 x.lo)).put (j := 1) (.int .i64 x.hi)).put (j := 2) (.int .i64 y.lo)).put (j := 3) (.int .i64 y.hi))
        have HO3 := hid ((((HN3.out.other (b' := v3.heap.size) (k' := 0) (by have := HNEQ.out; omega) (.int .i64 x.lo)).other (b' := v3.heap.size) (k' := 1) (by have := HNEQ.out; omega) (.int .i64 x.hi)).other (b' := v3.heap.size) (k' := 2) (by have := HNEQ.out; omega) (.int .i64 y.lo)).other (b' := v3.heap.size) (k' := 3) (by have := HNEQ.out; omega) (.int .i64 y.hi))
        have HSW := hid (hS.1.step' ((((((Below.refl W4d.heap.size v2).setCell (p := ⟨v3.heap.size, 0, none⟩) HL2.out (.int .i64 x.lo)).setCell (p := ⟨v3.heap.size, 1, none⟩) HL2.out (.int .i64 x.hi)).setCell (p := ⟨v3.heap.size, 2, none⟩) HL2.out (.int .i64 y.lo)).setCell (p := ⟨v3.heap.size, 3, none⟩) HL2.out (.int .i64 y.hi)).mono (by have := HW4.out.size; exact this)))
        have HSB := hid (hS.2.trans (((((Below.refl W4d.heap.size v2).setCell (p := ⟨v3.heap.size, 0, none⟩) HL2.out (.int .i64 x.lo)).setCell (p := ⟨v3.heap.size, 1, none⟩) HL2.out (.int .i64 x.hi)).setCell (p := ⟨v3.heap.size, 2, none⟩) HL2.out (.int .i64 y.lo)).setCell (p := ⟨v3.heap.size, 3, none⟩) HL2.out (.int .i64 y.hi)))
        clear hS
        go_simp
        clear k0 f0 k1 f1 k2 f2 k3 f3
        generalize ((((v2.setCell ⟨v3.heap.size, 0, none⟩ (.int .i64 x.lo)).setCell ⟨v3.heap.size, 1, none⟩ (.int .i64 x.hi)).setCell ⟨v3.heap.size, 2, none⟩ (.int .i64 y.lo)).setCell ⟨v3.heap.size, 3, none⟩ (.int .i64 y.hi)) = V4 at HP2 HO3 HSW HSB ⊢
        have HN2 := HP2; have HN3 := HO3
        refine hK.out _ _ (⟨HSW.out, HSB.out⟩) (fun hS => ?_)
        clear hK K
        try simp only [List.setIfInBounds_toArray, List.set_cons_zero, List.set_cons_succ]
        refine wpAnyH_ready (rs := [5]) (by kernel_rfl) (by simp) ?_
        refine AllReadyH.cons (o := _) rfl (fun K hK => ?_) AllReadyH.nil
        have k0 := (HN3.out.2 0 (.int .i64 0) rfl).1; have f0 := (HN3.out.2 0 (.int .i64 0) rfl).2
        have k1 := (HN3.out.2 1 (.int .i64 0) rfl).1; have f1 := (HN3.out.2 1 (.int .i64 0) rfl).2
        have k2 := (HN3.out.2 2 (.int .i64 0) rfl).1; have f2 := (HN3.out.2 2 (.int .i64 0) rfl).2
        have k3 := (HN3.out.2 3 (.int .i64 0) rfl).1; have f3 := (HN3.out.2 3 (.int .i64 0) rfl).2
        have HP3 : Hid (BoxIs W4d.heap.size #[.int .i64 x.lo, .int .i64 x.hi, .int .i64 y.lo, .int .i64 y.hi] ((((V4.setCell ⟨W4d.heap.size, 0, none⟩ (.int .i64 x.lo)).setCell ⟨W4d.heap.size, 1, none⟩ (.int .i64 x.hi)).setCell ⟨W4d.heap.size, 2, none⟩ (.int .i64 y.lo)).setCell ⟨W4d.heap.size, 3, none⟩ (.int .i64 y.hi))) := hid ((((HN3.out.put (j := 0) (.int .i64 x.lo)).put (j := 1) (.int .i64 x.hi)).put (j := 2) (.int .i64 y.lo)).put (j := 3) (.int .i64 y.hi))
        have HO2 := hid ((((HN2.out.other (b' := W4d.heap.size) (k' := 0) (by have := HNEQ.out; omega) (.int .i64 x.lo)).other (b' := W4d.heap.size) (k' := 1) (by have := HNEQ.out; omega) (.int .i64 x.hi)).other (b' := W4d.heap.size) (k' := 2) (by have := HNEQ.out; omega) (.int .i64 y.lo)).other (b' := W4d.heap.size) (k' := 3) (by have := HNEQ.out; omega) (.int .i64 y.hi))
        have HSW := hid (hS.1.step' ((((((Below.refl W4d.heap.size V4).setCell (p := ⟨W4d.heap.size, 0, none⟩) HL3.out (.int .i64 x.lo)).setCell (p := ⟨W4d.heap.size, 1, none⟩) HL3.out (.int .i64 x.hi)).setCell (p := ⟨W4d.heap.size, 2, none⟩) HL3.out (.int .i64 y.lo)).setCell (p := ⟨W4d.heap.size, 3, none⟩) HL3.out (.int .i64 y.hi)).mono (by have := HW4.out.size; exact this)))
        have HSB := hid (hS.2.trans (((((Below.refl W4d.heap.size V4).setCell (p := ⟨W4d.heap.size, 0, none⟩) HL3.out (.int .i64 x.lo)).setCell (p := ⟨W4d.heap.size, 1, none⟩) HL3.out (.int .i64 x.hi)).setCell (p := ⟨W4d.heap.size, 2, none⟩) HL3.out (.int .i64 y.lo)).setCell (p := ⟨W4d.heap.size, 3, none⟩) HL3.out (.int .i64 y.hi)))
        clear hS
        go_simp
        clear k0 f0 k1 f1 k2 f2 k3 f3
        generalize ((((V4.setCell ⟨W4d.heap.size, 0, none⟩ (.int .i64 x.lo)).setCell ⟨W4d.heap.size, 1, none⟩ (.int .i64 x.hi)).setCell ⟨W4d.heap.size, 2, none⟩ (.int .i64 y.lo)).setCell ⟨W4d.heap.size, 3, none⟩ (.int .i64 y.hi)) = V5 at HP3 HO2 HSW HSB ⊢
        have HN3 := HP3; have HN2 := HO2
        refine hK.out _ _ (⟨HSW.out, HSB.out⟩) (fun hS => ?_)
        clear hK K
        try simp only [List.setIfInBounds_toArray, List.set_cons_zero, List.set_cons_succ]
        refine wpAnyH_done (by kernel_rfl) ?_ _
        go_wp2
        go_meet
        case rel => exact ⟨_, _, rfl, rfl, HN2.out, HN3.out, by have := HNEQ.out; omega, by have := HL2.out; have := HW4.out.size; omega, by have := HL3.out; have := HW4.out.size; omega, hS.1, HX4.out.below hS.2, by have := HL2.out; have := HX4.out.1; omega, by have := HL3.out; have := HX4.out.1; omega⟩
      case rest =>
        obtain ⟨ba, bb, rfl, rfl, hxa, hxb, hne, hla, hlb, hw, hx7, hna, hnb⟩ := hcut
        have HXA := hid hxa; have HXB := hid hxb; have HNE := hid hne; have HLA := hid hla; have HLB := hid hlb; have HW8 := hid hw; have HX7 := hid hx7; have HNA := hid hna; have HNB := hid hnb
        clear hna hnb hxa hxb hne hla hlb hw hx7 HW4 HX4
        have hu : av.tmod 2 = av % 2 := Int.tmod_eq_emod_of_nonneg HAV.out.1
        have hu2 : IntKind.u8.wrap (av % 2) = av % 2 := HU8.out
        generalize wc = W8 at HXA HXB HW8 HX7 ⊢
        go_upto_if 44 with fail
        go_cut [] from 18 (fun wr => ∃ xa ya xb yb : Rng, Boxed1 w #[.int .i64 s.wide, .int .i64 s.high, .int .i64 s.fall, .int .i64 s.a.lo, .int .i64 s.a.hi, .int .i64 s.b.lo, .int .i64 s.b.hi, .int .i64 s.half.lo, .int .i64 s.half.hi, .int .i64 s.peak.lo, .int .i64 s.peak.hi, .slice p n c] 26 wr ∧ BoxIs ba #[.int .i64 xa.lo, .int .i64 xa.hi, .int .i64 ya.lo, .int .i64 ya.hi] wr ∧ BoxIs bb #[.int .i64 xb.lo, .int .i64 xb.hi, .int .i64 yb.lo, .int .i64 yb.hi] wr ∧ PartsOk (verdT s (truthL s) x y) (verdT s (truthL s) xa ya) (verdT s (truthL s) xb yb) ∧ rectB s xa ya = true ∧ rectB s xb yb = true)
        case first =>
          by_cases hp : av % 2 = 0
          · have hp1 : (av % 2 == 0) = true := by simpa using hp
            go_upto_region 9 with fail
            obtain ⟨C, hC⟩ : ∃ C, x.cnt = C := ⟨_, rfl⟩
            have HCN := hid hC
            have hC1 : C = x.hi - x.lo + 1 := by rw [← hC]; rfl
            have hCp : 0 < C := by have := HXI.out; omega
            have hk0 := Int.emod_nonneg (av / 2) (show C ≠ 0 by omega); have hk1 := Int.emod_lt_of_pos (av / 2) hCp
            have HQ : Hid (av.tdiv 2 = av / 2 ∧ IntKind.i64.wrap (av / 2) = av / 2 ∧ (av / 2).tmod C = av / 2 % C ∧ IntKind.i64.wrap (av / 2 % C) = av / 2 % C ∧ ¬ C = 0 ∧ IntKind.i64.wrap av = av) := ⟨Int.tdiv_eq_ediv_of_nonneg HAV.out.1, IntWalk.i64_in _ (by have := HAV.out; omega), Int.tmod_eq_emod_of_nonneg (by have := HAV.out; omega), IntWalk.i64_in _ (by have := HRB.out; omega), by omega, IntWalk.i64_in _ (by have := HAV.out; omega)⟩
            obtain ⟨k, hk⟩ : ∃ k, av / 2 % C = k := ⟨_, rfl⟩
            rw [hk] at HQ hk0 hk1
            have HKB : Hid (0 ≤ k ∧ x.lo + k ≤ x.hi) := hid ⟨hk0, by omega⟩
            have HW1 : Hid (IntKind.i64.wrap (x.lo + k) = x.lo + k) := hid (IntWalk.i64_in _ (by have := HRB.out; have := HKB.out; omega))
            have HW2 : Hid (IntKind.i64.wrap (x.lo + k + 1) = x.lo + k + 1) := hid (IntWalk.i64_in _ (by have := HRB.out; have := HKB.out; omega))
            clear hk hC hC1 hk0 hk1
            refine wp_region_held_drew (S := fun V => Boxed1 w #[.int .i64 s.wide, .int .i64 s.high, .int .i64 s.fall, .int .i64 s.a.lo, .int .i64 s.a.hi, .int .i64 s.b.lo, .int .i64 s.b.hi, .int .i64 s.half.lo, .int .i64 s.half.hi, .int .i64 s.peak.lo, .int .i64 s.peak.hi, .slice p n c] 26 V ∧ Below W8.heap.size W8 V) (by kernel_rfl) (⟨HW8.out.drew, (Below.refl _ _).drew⟩) (fun hS => ?_)
            simp only [List.size_toArray, List.length_cons, List.length_nil, Nat.reduceAdd, Array.replicate_succ, Array.replicate_zero, List.push_toArray, List.nil_append, List.cons_append]
            refine wpAnyH_take (i := 0) (v := ?_) rfl (by kernel_rfl) (by kernel_rfl) (by kernel_rfl) (fun _ _ _ h => h) (Or.inl ⟨by rfl, fun V hV => ?_⟩) (by assumption) ?_
            rotate_left
            · go_simp
              try with_reducible rfl
            try simp only [Act.put, List.getElem_toArray, List.getElem_cons_zero, List.setIfInBounds_toArray, List.set_cons_zero, List.set_cons_succ]
            refine wpAnyH_take (i := 1) (v := ?_) rfl (by kernel_rfl) (by kernel_rfl) (by kernel_rfl) (fun _ _ _ h => h) (Or.inl ⟨by rfl, fun V hV => ?_⟩) (by assumption) ?_
            rotate_left
            · go_simp
              try with_reducible rfl
            try simp only [Act.put, List.getElem_toArray, List.getElem_cons_zero, List.getElem_cons_succ, List.setIfInBounds_toArray, List.set_cons_zero, List.set_cons_succ]
            refine wpAnyH_take (i := 2) (v := ?_) rfl (by kernel_rfl) (by kernel_rfl) (by kernel_rfl) (fun _ _ _ h => h) (Or.inl ⟨by rfl, fun V hV => ?_⟩) (by assumption) ?_
            rotate_left
            · have hX := HX7.out.below hV.2; have d0 := (hX.2 0 (.int .i64 x.lo) rfl).1; have d1 := (hX.2 1 (.int .i64 x.hi) rfl).1; have d2 := (hX.2 2 (.int .i64 y.lo) rfl).1; have d3 := (hX.2 3 (.int .i64 y.hi) rfl).1; go_simp
              try with_reducible rfl
            try simp only [Act.put, List.getElem_toArray, List.getElem_cons_zero, List.getElem_cons_succ, List.setIfInBounds_toArray, List.set_cons_zero, List.set_cons_succ]
            refine wpAnyH_take (i := 3) (v := ?_) rfl (by kernel_rfl) (by kernel_rfl) (by kernel_rfl) (fun _ _ _ h => h) (Or.inl ⟨by rfl, fun V hV => ?_⟩) (by assumption) ?_
            rotate_left
            · go_simp
              try with_reducible rfl
            try simp only [Act.put, List.getElem_toArray, List.getElem_cons_zero, List.getElem_cons_succ, List.setIfInBounds_toArray, List.set_cons_zero, List.set_cons_succ]
            refine wpAnyH_take (i := 4) (v := ?_) rfl (by kernel_rfl) (by kernel_rfl) (by kernel_rfl) (fun _ _ _ h => h) (Or.inl ⟨by rfl, fun V hV => ?_⟩) (by assumption) ?_
            rotate_left
            · obtain ⟨a0, a1, a2, a3, a4, a5⟩ := HQ.out; have hk0 := HKB.out.1; have hk1 := HKB.out.2; obtain ⟨r0, r1, r2, r3, r4, r5⟩ := HRB.out; have hw1 := HW1.out; go_simp
              try with_reducible rfl
            try simp only [Act.put, List.getElem_toArray, List.getElem_cons_zero, List.getElem_cons_succ, List.setIfInBounds_toArray, List.set_cons_zero, List.set_cons_succ]
            refine wpAnyH_take (i := 5) (v := ?_) rfl (by kernel_rfl) (by kernel_rfl) (by kernel_rfl) (fun _ _ _ h => h) (Or.inl ⟨by rfl, fun V hV => ?_⟩) (by assumption) ?_
            rotate_left
            · obtain ⟨a0, a1, a2, a3, a4, a5⟩ := HQ.out; have hk0 := HKB.out.1; have hk1 := HKB.out.2; obtain ⟨r0, r1, r2, r3, r4, r5⟩ := HRB.out; have hw1 := HW1.out; go_simp
              try with_reducible rfl
            try simp only [Act.put, List.getElem_toArray, List.getElem_cons_zero, List.getElem_cons_succ, List.setIfInBounds_toArray, List.set_cons_zero, List.set_cons_succ]
            refine wpAnyH_take (i := 6) (v := ?_) rfl (by kernel_rfl) (by kernel_rfl) (by kernel_rfl) (fun _ _ _ h => h) (Or.inl ⟨by rfl, fun V hV => ?_⟩) (by assumption) ?_
            rotate_left
            · go_simp
              try with_reducible rfl
            try simp only [Act.put, List.getElem_toArray, List.getElem_cons_zero, List.getElem_cons_succ, List.setIfInBounds_toArray, List.set_cons_zero, List.set_cons_succ]
            refine wpAnyH_take (i := 7) (v := ?_) rfl (by kernel_rfl) (by kernel_rfl) (by kernel_rfl) (fun _ _ _ h => h) (Or.inl ⟨by rfl, fun V hV => ?_⟩) (by assumption) ?_
            rotate_left
            · have hX := HX7.out.below hV.2; have d0 := (hX.2 0 (.int .i64 x.lo) rfl).1; have d1 := (hX.2 1 (.int .i64 x.hi) rfl).1; have d2 := (hX.2 2 (.int .i64 y.lo) rfl).1; have d3 := (hX.2 3 (.int .i64 y.hi) rfl).1; go_simp
              try with_reducible rfl
            try simp only [Act.put, List.getElem_toArray, List.getElem_cons_zero, List.getElem_cons_succ, List.setIfInBounds_toArray, List.set_cons_zero, List.set_cons_succ]
            refine wpAnyH_ready (rs := [8]) (by kernel_rfl) (by simp) ?_
            refine AllReadyH.cons (o := _) rfl (fun K hK => ?_) AllReadyH.nil
            go_simp
            (with_reducible refine (count_any x _ (by have := HRB.out; omega) (by have := HRB.out; omega) (by have := HRB.out; omega) (by have := HRB.out; omega)).mono ?_)
            rintro e s8 ⟨rfl, hb8⟩
            rw [HCN.out]
            refine hK.out _ _ (⟨hS.1.step hb8, hS.2.trans (hb8.mono hS.2.size)⟩) (fun hS => ?_)
            clear hK K
            try simp only [List.setIfInBounds_toArray, List.set_cons_zero, List.set_cons_succ]
            refine wpAnyH_take (i := 9) (v := ?_) rfl (by kernel_rfl) (by kernel_rfl) (by kernel_rfl) (fun _ _ _ h => h) (Or.inl ⟨by rfl, fun V hV => ?_⟩) (by assumption) ?_
            rotate_left
            · obtain ⟨a0, a1, a2, a3, a4, a5⟩ := HQ.out; have hk0 := HKB.out.1; have hk1 := HKB.out.2; obtain ⟨r0, r1, r2, r3, r4, r5⟩ := HRB.out; have hw1 := HW1.out; go_simp
              try with_reducible rfl
            try simp only [Act.put, List.getElem_toArray, List.getElem_cons_zero, List.getElem_cons_succ, List.setIfInBounds_toArray, List.set_cons_zero, List.set_cons_succ]
            refine wpAnyH_take (i := 10) (v := ?_) rfl (by kernel_rfl) (by kernel_rfl) (by kernel_rfl) (fun _ _ _ h => h) (Or.inl ⟨by rfl, fun V hV => ?_⟩) (by assumption) ?_
            rotate_left
            · obtain ⟨a0, a1, a2, a3, a4, a5⟩ := HQ.out; have hk0 := HKB.out.1; have hk1 := HKB.out.2; obtain ⟨r0, r1, r2, r3, r4, r5⟩ := HRB.out; have hw1 := HW1.out; go_simp
              try with_reducible rfl
            try simp only [Act.put, List.getElem_toArray, List.getElem_cons_zero, List.getElem_cons_succ, List.setIfInBounds_toArray, List.set_cons_zero, List.set_cons_succ]
            refine wpAnyH_take (i := 11) (v := ?_) rfl (by kernel_rfl) (by kernel_rfl) (by kernel_rfl) (fun _ _ _ h => h) (Or.inl ⟨by rfl, fun V hV => ?_⟩) (by assumption) ?_
            rotate_left
            · go_simp
              try with_reducible rfl
            try simp only [Act.put, List.getElem_toArray, List.getElem_cons_zero, List.getElem_cons_succ, List.setIfInBounds_toArray, List.set_cons_zero, List.set_cons_succ]
            refine wpAnyH_done (by kernel_rfl) ?_ _
            have HS8 := hid hS.1; have HX7 := hid (HX7.out.below hS.2); have HXA := hid (HXA.out.below hS.2); have HXB := hid (HXB.out.below hS.2)
            clear hS
            go_upto_region 10 with fail
            generalize s8 = W10 at HS8 HX7 HXA HXB ⊢
            obtain ⟨W10d, hW10d⟩ : ∃ V, W10.drew = V := ⟨_, rfl⟩
            have HS8 := hid HS8.out.drew; have HX7 := hid (HX7.out.below (Below.refl _ _).drew); have HXA := hid (HXA.out.below (Below.refl _ _).drew); have HXB := hid (HXB.out.below (Below.refl _ _).drew)
            rw [hW10d] at HS8 HX7 HXA HXB
            have hkb := HKB.out
            obtain ⟨r0, r1, r2, r3, r4, r5⟩ := HRB.out
            by_cases g1 : x.lo + k + 1 < x.hi
            · skip
              have HMM : Hid (minI x.hi (x.lo + k + 1) = (x.lo + k + 1)) := by show _ = _; rw [minI, if_pos g1]
              refine wp_region_held_drew (S := fun V => Boxed1 w #[.int .i64 s.wide, .int .i64 s.high, .int .i64 s.fall, .int .i64 s.a.lo, .int .i64 s.a.hi, .int .i64 s.b.lo, .int .i64 s.b.hi, .int .i64 s.half.lo, .int .i64 s.half.hi, .int .i64 s.peak.lo, .int .i64 s.peak.hi, .slice p n c] 26 V ∧ BoxIs w2.heap.size #[.int .i64 x.lo, .int .i64 x.hi, .int .i64 y.lo, .int .i64 y.hi] V) (by kernel_rfl) (by rw [hW10d]; exact ⟨HS8.out, HX7.out⟩) (fun hS => ?_)
              rw [hW10d] at hS ⊢
              clear hW10d
              simp only [List.size_toArray, List.length_cons, List.length_nil, Nat.reduceAdd, Array.replicate_succ, Array.replicate_zero, List.push_toArray, List.nil_append, List.cons_append]
              refine wpAnyH_take (i := 0) (v := ?_) rfl (by kernel_rfl) (by kernel_rfl) (by kernel_rfl) (fun _ _ _ h => h) (Or.inl ⟨by rfl, fun V hV => ?_⟩) (by assumption) ?_
              rotate_left
              · go_simp
                try with_reducible rfl
              try simp only [Act.put, List.getElem_toArray, List.getElem_cons_zero, List.setIfInBounds_toArray, List.set_cons_zero, List.set_cons_succ]
              refine wpAnyH_take (i := 1) (v := ?_) rfl (by kernel_rfl) (by kernel_rfl) (by kernel_rfl) (fun _ _ _ h => h) (Or.inl ⟨by rfl, fun V hV => ?_⟩) (by assumption) ?_
              rotate_left
              · go_simp
                try with_reducible rfl
              try simp only [Act.put, List.getElem_toArray, List.getElem_cons_zero, List.getElem_cons_succ, List.setIfInBounds_toArray, List.set_cons_zero, List.set_cons_succ]
              refine wpAnyH_take (i := 2) (v := ?_) rfl (by kernel_rfl) (by kernel_rfl) (by kernel_rfl) (fun _ _ _ h => h) (Or.inl ⟨by rfl, fun V hV => ?_⟩) (by assumption) ?_
              rotate_left
              · go_simp
                try with_reducible rfl
              try simp only [Act.put, List.getElem_toArray, List.getElem_cons_zero, List.getElem_cons_succ, List.setIfInBounds_toArray, List.set_cons_zero, List.set_cons_succ]
              refine wpAnyH_take (i := 3) (v := ?_) rfl (by kernel_rfl) (by kernel_rfl) (by kernel_rfl) (fun _ _ _ h => h) (Or.inl ⟨by rfl, fun V hV => ?_⟩) (by assumption) ?_
              rotate_left
              · have d0 := (hV.2.2 0 (.int .i64 x.lo) rfl).1; have d1 := (hV.2.2 1 (.int .i64 x.hi) rfl).1; have d2 := (hV.2.2 2 (.int .i64 y.lo) rfl).1; have d3 := (hV.2.2 3 (.int .i64 y.hi) rfl).1; go_simp
                try with_reducible rfl
              try simp only [Act.put, List.getElem_toArray, List.getElem_cons_zero, List.getElem_cons_succ, List.setIfInBounds_toArray, List.set_cons_zero, List.set_cons_succ]
              refine wpAnyH_take (i := 4) (v := ?_) rfl (by kernel_rfl) (by kernel_rfl) (by kernel_rfl) (fun _ _ _ h => h) (Or.inl ⟨by rfl, fun V hV => ?_⟩) (by assumption) ?_
              rotate_left
              · go_simp
                try with_reducible rfl
              try simp only [Act.put, List.getElem_toArray, List.getElem_cons_zero, List.getElem_cons_succ, List.setIfInBounds_toArray, List.set_cons_zero, List.set_cons_succ]
              refine wpAnyH_take (i := 5) (v := ?_) rfl (by kernel_rfl) (by kernel_rfl) (by kernel_rfl) (fun _ _ _ h => h) (Or.inl ⟨by rfl, fun V hV => ?_⟩) (by assumption) ?_
              rotate_left
              · obtain ⟨r0, r1, r2, r3, r4, r5⟩ := HRB.out; have hw1 := HW1.out; have hw2 := HW2.out; have hkb := HKB.out; go_simp
                try with_reducible rfl
              try simp only [Act.put, List.getElem_toArray, List.getElem_cons_zero, List.getElem_cons_succ, List.setIfInBounds_toArray, List.set_cons_zero, List.set_cons_succ]
              refine wpAnyH_take (i := 6) (v := ?_) rfl (by kernel_rfl) (by kernel_rfl) (by kernel_rfl) (fun _ _ _ h => h) (Or.inl ⟨by rfl, fun V hV => ?_⟩) (by assumption) ?_
              rotate_left
              · obtain ⟨r0, r1, r2, r3, r4, r5⟩ := HRB.out; have hw1 := HW1.out; have hw2 := HW2.out; have hkb := HKB.out; go_simp
                try with_reducible rfl
              try simp only [Act.put, List.getElem_toArray, List.getElem_cons_zero, List.getElem_cons_succ, List.setIfInBounds_toArray, List.set_cons_zero, List.set_cons_succ]
              refine wpAnyH_take (i := 7) (v := ?_) rfl (by kernel_rfl) (by kernel_rfl) (by kernel_rfl) (fun _ _ _ h => h) (Or.inl ⟨by rfl, fun V hV => ?_⟩) (by assumption) ?_
              rotate_left
              · go_simp
                try with_reducible rfl
              try simp only [Act.put, List.getElem_toArray, List.getElem_cons_zero, List.getElem_cons_succ, List.setIfInBounds_toArray, List.set_cons_zero, List.set_cons_succ]
              refine wpAnyH_take (i := 8) (v := ?_) rfl (by kernel_rfl) (by kernel_rfl) (by kernel_rfl) (fun _ _ _ h => h) (Or.inl ⟨by rfl, fun V hV => ?_⟩) (by assumption) ?_
              rotate_left
              · go_simp
                try with_reducible rfl
              try simp only [Act.put, List.getElem_toArray, List.getElem_cons_zero, List.getElem_cons_succ, List.setIfInBounds_toArray, List.set_cons_zero, List.set_cons_succ]
              refine wpAnyH_ready (rs := [9]) (by kernel_rfl) (by simp) ?_
              refine AllReadyH.cons (o := _) rfl (fun K hK => ?_) AllReadyH.nil
              have k0 := (HXA.out.2 1 (.int .i64 x.hi) rfl).1; have k1 := (HXA.out.2 1 (.int .i64 x.hi) rfl).2
              have HP := hid (HXA.out.put (j := 1) (.int .i64 (x.lo + k))); have HO := hid (HXB.out.other (b' := ba) (k' := 1) HNE.out.symm (.int .i64 (x.lo + k)))
              have HPW := hid (hS.1.step' ((Below.refl (w.heap.size + 1) W10d).setCell (p := ⟨ba, 1, none⟩) HLA.out (.int .i64 (x.lo + k))))
              have HP7 := hid (hS.2.other (b' := ba) (k' := 1) HNA.out (.int .i64 (x.lo + k)))
              clear hS
              go_simp
              clear k0 k1
              generalize (W10d.setCell ⟨ba, 1, none⟩ (.int .i64 (x.lo + k))) = V9 at HP HO HPW HP7 ⊢
              have HXA := HP; have HXB := HO
              refine hK.out _ _ (⟨HPW.out, HP7.out⟩) (fun hS => ?_)
              clear hK K
              try simp only [List.setIfInBounds_toArray, List.set_cons_zero, List.set_cons_succ]
              refine wpAnyH_take (i := 10) (v := ?_) rfl (by kernel_rfl) (by kernel_rfl) (by kernel_rfl) (fun _ _ _ h => h) (Or.inl ⟨by rfl, fun V hV => ?_⟩) (by assumption) ?_
              rotate_left
              · go_simp
                try with_reducible rfl
              try simp only [Act.put, List.getElem_toArray, List.getElem_cons_zero, List.getElem_cons_succ, List.setIfInBounds_toArray, List.set_cons_zero, List.set_cons_succ]
              refine wpAnyH_take (i := 11) (v := ?_) rfl (by kernel_rfl) (by kernel_rfl) (by kernel_rfl) (fun _ _ _ h => h) (Or.inl ⟨by rfl, fun V hV => ?_⟩) (by assumption) ?_
              rotate_left
              · go_simp
                try with_reducible rfl
              try simp only [Act.put, List.getElem_toArray, List.getElem_cons_zero, List.getElem_cons_succ, List.setIfInBounds_toArray, List.set_cons_zero, List.set_cons_succ]
              refine wpAnyH_ready (rs := [12]) (by kernel_rfl) (by simp) ?_
              refine AllReadyH.cons (o := _) rfl (fun K hK => ?_) AllReadyH.nil
              have k0 := (HXB.out.2 0 (.int .i64 x.lo) rfl).1; have k1 := (HXB.out.2 0 (.int .i64 x.lo) rfl).2
              have HP := hid (HXB.out.put (j := 0) (.int .i64 (x.lo + k + 1))); have HO := hid (HXA.out.other (b' := bb) (k' := 0) HNE.out (.int .i64 (x.lo + k + 1)))
              have HPW := hid (hS.1.step' ((Below.refl (w.heap.size + 1) V9).setCell (p := ⟨bb, 0, none⟩) HLB.out (.int .i64 (x.lo + k + 1))))
              have HP7 := hid (hS.2.other (b' := bb) (k' := 0) HNB.out (.int .i64 (x.lo + k + 1)))
              clear hS
              go_simp
              clear k0 k1
              generalize (V9.setCell ⟨bb, 0, none⟩ (.int .i64 (x.lo + k + 1))) = V12 at HP HO HPW HP7 ⊢
              have HXB := HP; have HXA := HO
              refine hK.out _ _ (⟨HPW.out, HP7.out⟩) (fun hS => ?_)
              clear hK K
              try simp only [List.setIfInBounds_toArray, List.set_cons_zero, List.set_cons_succ]
              refine wpAnyH_done (by kernel_rfl) ?_ _
              go_wp2
              go_meet
              case rel =>
                have hcb : cutB x k = ⟨(x.lo + k + 1), x.hi⟩ := by rw [cutB, HMM.out]
                refine ⟨(cutA x k), y, (cutB x k), y, hS.1, HXA.out, ?_, partsX HLNE.out HKB.out.1 HKB.out.2 HXI.out.2.2, ?_, ?_⟩
                · rw [hcb]; exact HXB.out
                · have h := HRC.out; rw [rectB, Bool.and_eq_true] at h ⊢; exact ⟨(cut_of HKB.out.1 HKB.out.2 h.1).1, h.2⟩
                · have h := HRC.out; rw [rectB, Bool.and_eq_true] at h ⊢; exact ⟨(cut_of HKB.out.1 HKB.out.2 h.1).2, h.2⟩
            · skip
              have HMM : Hid (minI x.hi (x.lo + k + 1) = x.hi) := by show _ = _; rw [minI, if_neg g1]
              refine wp_region_held_drew (S := fun V => Boxed1 w #[.int .i64 s.wide, .int .i64 s.high, .int .i64 s.fall, .int .i64 s.a.lo, .int .i64 s.a.hi, .int .i64 s.b.lo, .int .i64 s.b.hi, .int .i64 s.half.lo, .int .i64 s.half.hi, .int .i64 s.peak.lo, .int .i64 s.peak.hi, .slice p n c] 26 V ∧ BoxIs w2.heap.size #[.int .i64 x.lo, .int .i64 x.hi, .int .i64 y.lo, .int .i64 y.hi] V) (by kernel_rfl) (by rw [hW10d]; exact ⟨HS8.out, HX7.out⟩) (fun hS => ?_)
              rw [hW10d] at hS ⊢
              clear hW10d
              simp only [List.size_toArray, List.length_cons, List.length_nil, Nat.reduceAdd, Array.replicate_succ, Array.replicate_zero, List.push_toArray, List.nil_append, List.cons_append]
              refine wpAnyH_take (i := 0) (v := ?_) rfl (by kernel_rfl) (by kernel_rfl) (by kernel_rfl) (fun _ _ _ h => h) (Or.inl ⟨by rfl, fun V hV => ?_⟩) (by assumption) ?_
              rotate_left
              · go_simp
                try with_reducible rfl
              try simp only [Act.put, List.getElem_toArray, List.getElem_cons_zero, List.setIfInBounds_toArray, List.set_cons_zero, List.set_cons_succ]
              refine wpAnyH_take (i := 1) (v := ?_) rfl (by kernel_rfl) (by kernel_rfl) (by kernel_rfl) (fun _ _ _ h => h) (Or.inl ⟨by rfl, fun V hV => ?_⟩) (by assumption) ?_
              rotate_left
              · go_simp
                try with_reducible rfl
              try simp only [Act.put, List.getElem_toArray, List.getElem_cons_zero, List.getElem_cons_succ, List.setIfInBounds_toArray, List.set_cons_zero, List.set_cons_succ]
              refine wpAnyH_take (i := 2) (v := ?_) rfl (by kernel_rfl) (by kernel_rfl) (by kernel_rfl) (fun _ _ _ h => h) (Or.inl ⟨by rfl, fun V hV => ?_⟩) (by assumption) ?_
              rotate_left
              · go_simp
                try with_reducible rfl
              try simp only [Act.put, List.getElem_toArray, List.getElem_cons_zero, List.getElem_cons_succ, List.setIfInBounds_toArray, List.set_cons_zero, List.set_cons_succ]
              refine wpAnyH_take (i := 3) (v := ?_) rfl (by kernel_rfl) (by kernel_rfl) (by kernel_rfl) (fun _ _ _ h => h) (Or.inl ⟨by rfl, fun V hV => ?_⟩) (by assumption) ?_
              rotate_left
              · have d0 := (hV.2.2 0 (.int .i64 x.lo) rfl).1; have d1 := (hV.2.2 1 (.int .i64 x.hi) rfl).1; have d2 := (hV.2.2 2 (.int .i64 y.lo) rfl).1; have d3 := (hV.2.2 3 (.int .i64 y.hi) rfl).1; go_simp
                try with_reducible rfl
              try simp only [Act.put, List.getElem_toArray, List.getElem_cons_zero, List.getElem_cons_succ, List.setIfInBounds_toArray, List.set_cons_zero, List.set_cons_succ]
              refine wpAnyH_take (i := 4) (v := ?_) rfl (by kernel_rfl) (by kernel_rfl) (by kernel_rfl) (fun _ _ _ h => h) (Or.inl ⟨by rfl, fun V hV => ?_⟩) (by assumption) ?_
              rotate_left
              · go_simp
                try with_reducible rfl
              try simp only [Act.put, List.getElem_toArray, List.getElem_cons_zero, List.getElem_cons_succ, List.setIfInBounds_toArray, List.set_cons_zero, List.set_cons_succ]
              refine wpAnyH_take (i := 5) (v := ?_) rfl (by kernel_rfl) (by kernel_rfl) (by kernel_rfl) (fun _ _ _ h => h) (Or.inl ⟨by rfl, fun V hV => ?_⟩) (by assumption) ?_
              rotate_left
              · obtain ⟨r0, r1, r2, r3, r4, r5⟩ := HRB.out; have hw1 := HW1.out; have hw2 := HW2.out; have hkb := HKB.out; go_simp
                try with_reducible rfl
              try simp only [Act.put, List.getElem_toArray, List.getElem_cons_zero, List.getElem_cons_succ, List.setIfInBounds_toArray, List.set_cons_zero, List.set_cons_succ]
              refine wpAnyH_take (i := 6) (v := ?_) rfl (by kernel_rfl) (by kernel_rfl) (by kernel_rfl) (fun _ _ _ h => h) (Or.inl ⟨by rfl, fun V hV => ?_⟩) (by assumption) ?_
              rotate_left
              · obtain ⟨r0, r1, r2, r3, r4, r5⟩ := HRB.out; have hw1 := HW1.out; have hw2 := HW2.out; have hkb := HKB.out; go_simp
                try with_reducible rfl
              try simp only [Act.put, List.getElem_toArray, List.getElem_cons_zero, List.getElem_cons_succ, List.setIfInBounds_toArray, List.set_cons_zero, List.set_cons_succ]
              refine wpAnyH_take (i := 7) (v := ?_) rfl (by kernel_rfl) (by kernel_rfl) (by kernel_rfl) (fun _ _ _ h => h) (Or.inl ⟨by rfl, fun V hV => ?_⟩) (by assumption) ?_
              rotate_left
              · go_simp
                try with_reducible rfl
              try simp only [Act.put, List.getElem_toArray, List.getElem_cons_zero, List.getElem_cons_succ, List.setIfInBounds_toArray, List.set_cons_zero, List.set_cons_succ]
              refine wpAnyH_take (i := 8) (v := ?_) rfl (by kernel_rfl) (by kernel_rfl) (by kernel_rfl) (fun _ _ _ h => h) (Or.inl ⟨by rfl, fun V hV => ?_⟩) (by assumption) ?_
              rotate_left
              · go_simp
                try with_reducible rfl
              try simp only [Act.put, List.getElem_toArray, List.getElem_cons_zero, List.getElem_cons_succ, List.setIfInBounds_toArray, List.set_cons_zero, List.set_cons_succ]
              refine wpAnyH_ready (rs := [9]) (by kernel_rfl) (by simp) ?_
              refine AllReadyH.cons (o := _) rfl (fun K hK => ?_) AllReadyH.nil
              have k0 := (HXA.out.2 1 (.int .i64 x.hi) rfl).1; have k1 := (HXA.out.2 1 (.int .i64 x.hi) rfl).2
              have HP := hid (HXA.out.put (j := 1) (.int .i64 (x.lo + k))); have HO := hid (HXB.out.other (b' := ba) (k' := 1) HNE.out.symm (.int .i64 (x.lo + k)))
              have HPW := hid (hS.1.step' ((Below.refl (w.heap.size + 1) W10d).setCell (p := ⟨ba, 1, none⟩) HLA.out (.int .i64 (x.lo + k))))
              have HP7 := hid (hS.2.other (b' := ba) (k' := 1) HNA.out (.int .i64 (x.lo + k)))
              clear hS
              go_simp
              clear k0 k1
              generalize (W10d.setCell ⟨ba, 1, none⟩ (.int .i64 (x.lo + k))) = V9 at HP HO HPW HP7 ⊢
              have HXA := HP; have HXB := HO
              refine hK.out _ _ (⟨HPW.out, HP7.out⟩) (fun hS => ?_)
              clear hK K
              try simp only [List.setIfInBounds_toArray, List.set_cons_zero, List.set_cons_succ]
              refine wpAnyH_take (i := 10) (v := ?_) rfl (by kernel_rfl) (by kernel_rfl) (by kernel_rfl) (fun _ _ _ h => h) (Or.inl ⟨by rfl, fun V hV => ?_⟩) (by assumption) ?_
              rotate_left
              · go_simp
                try with_reducible rfl
              try simp only [Act.put, List.getElem_toArray, List.getElem_cons_zero, List.getElem_cons_succ, List.setIfInBounds_toArray, List.set_cons_zero, List.set_cons_succ]
              refine wpAnyH_take (i := 11) (v := ?_) rfl (by kernel_rfl) (by kernel_rfl) (by kernel_rfl) (fun _ _ _ h => h) (Or.inl ⟨by rfl, fun V hV => ?_⟩) (by assumption) ?_
              rotate_left
              · go_simp
                try with_reducible rfl
              try simp only [Act.put, List.getElem_toArray, List.getElem_cons_zero, List.getElem_cons_succ, List.setIfInBounds_toArray, List.set_cons_zero, List.set_cons_succ]
              refine wpAnyH_ready (rs := [12]) (by kernel_rfl) (by simp) ?_
              refine AllReadyH.cons (o := _) rfl (fun K hK => ?_) AllReadyH.nil
              have k0 := (HXB.out.2 0 (.int .i64 x.lo) rfl).1; have k1 := (HXB.out.2 0 (.int .i64 x.lo) rfl).2
              have HP := hid (HXB.out.put (j := 0) (.int .i64 x.hi)); have HO := hid (HXA.out.other (b' := bb) (k' := 0) HNE.out (.int .i64 x.hi))
              have HPW := hid (hS.1.step' ((Below.refl (w.heap.size + 1) V9).setCell (p := ⟨bb, 0, none⟩) HLB.out (.int .i64 x.hi)))
              have HP7 := hid (hS.2.other (b' := bb) (k' := 0) HNB.out (.int .i64 x.hi))
              clear hS
              go_simp
              clear k0 k1
              generalize (V9.setCell ⟨bb, 0, none⟩ (.int .i64 x.hi)) = V12 at HP HO HPW HP7 ⊢
              have HXB := HP; have HXA := HO
              refine hK.out _ _ (⟨HPW.out, HP7.out⟩) (fun hS => ?_)
              clear hK K
              try simp only [List.setIfInBounds_toArray, List.set_cons_zero, List.set_cons_succ]
              refine wpAnyH_done (by kernel_rfl) ?_ _
              go_wp2
              go_meet
              case rel =>
                have hcb : cutB x k = ⟨x.hi, x.hi⟩ := by rw [cutB, HMM.out]
                refine ⟨(cutA x k), y, (cutB x k), y, hS.1, HXA.out, ?_, partsX HLNE.out HKB.out.1 HKB.out.2 HXI.out.2.2, ?_, ?_⟩
                · rw [hcb]; exact HXB.out
                · have h := HRC.out; rw [rectB, Bool.and_eq_true] at h ⊢; exact ⟨(cut_of HKB.out.1 HKB.out.2 h.1).1, h.2⟩
                · have h := HRC.out; rw [rectB, Bool.and_eq_true] at h ⊢; exact ⟨(cut_of HKB.out.1 HKB.out.2 h.1).2, h.2⟩
          · have hp1 : (av % 2 == 0) = false := by simpa using hp
            go_upto_region 11 with fail
            obtain ⟨C, hC⟩ : ∃ C, y.cnt = C := ⟨_, rfl⟩
            have HCN := hid hC
            have hC1 : C = y.hi - y.lo + 1 := by rw [← hC]; rfl
            have hCp : 0 < C := by have := HXI.out; omega
            have hk0 := Int.emod_nonneg (av / 2) (show C ≠ 0 by omega); have hk1 := Int.emod_lt_of_pos (av / 2) hCp
            have HQ : Hid (av.tdiv 2 = av / 2 ∧ IntKind.i64.wrap (av / 2) = av / 2 ∧ (av / 2).tmod C = av / 2 % C ∧ IntKind.i64.wrap (av / 2 % C) = av / 2 % C ∧ ¬ C = 0 ∧ IntKind.i64.wrap av = av) := ⟨Int.tdiv_eq_ediv_of_nonneg HAV.out.1, IntWalk.i64_in _ (by have := HAV.out; omega), Int.tmod_eq_emod_of_nonneg (by have := HAV.out; omega), IntWalk.i64_in _ (by have := HRB.out; omega), by omega, IntWalk.i64_in _ (by have := HAV.out; omega)⟩
            obtain ⟨k, hk⟩ : ∃ k, av / 2 % C = k := ⟨_, rfl⟩
            rw [hk] at HQ hk0 hk1
            have HKB : Hid (0 ≤ k ∧ y.lo + k ≤ y.hi) := hid ⟨hk0, by omega⟩
            have HW1 : Hid (IntKind.i64.wrap (y.lo + k) = y.lo + k) := hid (IntWalk.i64_in _ (by have := HRB.out; have := HKB.out; omega))
            have HW2 : Hid (IntKind.i64.wrap (y.lo + k + 1) = y.lo + k + 1) := hid (IntWalk.i64_in _ (by have := HRB.out; have := HKB.out; omega))
            clear hk hC hC1 hk0 hk1
            refine wp_region_held_drew (S := fun V => Boxed1 w #[.int .i64 s.wide, .int .i64 s.high, .int .i64 s.fall, .int .i64 s.a.lo, .int .i64 s.a.hi, .int .i64 s.b.lo, .int .i64 s.b.hi, .int .i64 s.half.lo, .int .i64 s.half.hi, .int .i64 s.peak.lo, .int .i64 s.peak.hi, .slice p n c] 26 V ∧ Below W8.heap.size W8 V) (by kernel_rfl) (⟨HW8.out.drew, (Below.refl _ _).drew⟩) (fun hS => ?_)
            simp only [List.size_toArray, List.length_cons, List.length_nil, Nat.reduceAdd, Array.replicate_succ, Array.replicate_zero, List.push_toArray, List.nil_append, List.cons_append]
            refine wpAnyH_take (i := 0) (v := ?_) rfl (by kernel_rfl) (by kernel_rfl) (by kernel_rfl) (fun _ _ _ h => h) (Or.inl ⟨by rfl, fun V hV => ?_⟩) (by assumption) ?_
            rotate_left
            · go_simp
              try with_reducible rfl
            try simp only [Act.put, List.getElem_toArray, List.getElem_cons_zero, List.setIfInBounds_toArray, List.set_cons_zero, List.set_cons_succ]
            refine wpAnyH_take (i := 1) (v := ?_) rfl (by kernel_rfl) (by kernel_rfl) (by kernel_rfl) (fun _ _ _ h => h) (Or.inl ⟨by rfl, fun V hV => ?_⟩) (by assumption) ?_
            rotate_left
            · go_simp
              try with_reducible rfl
            try simp only [Act.put, List.getElem_toArray, List.getElem_cons_zero, List.getElem_cons_succ, List.setIfInBounds_toArray, List.set_cons_zero, List.set_cons_succ]
            refine wpAnyH_take (i := 2) (v := ?_) rfl (by kernel_rfl) (by kernel_rfl) (by kernel_rfl) (fun _ _ _ h => h) (Or.inl ⟨by rfl, fun V hV => ?_⟩) (by assumption) ?_
            rotate_left
            · have hX := HX7.out.below hV.2; have d0 := (hX.2 0 (.int .i64 x.lo) rfl).1; have d1 := (hX.2 1 (.int .i64 x.hi) rfl).1; have d2 := (hX.2 2 (.int .i64 y.lo) rfl).1; have d3 := (hX.2 3 (.int .i64 y.hi) rfl).1; go_simp
              try with_reducible rfl
            try simp only [Act.put, List.getElem_toArray, List.getElem_cons_zero, List.getElem_cons_succ, List.setIfInBounds_toArray, List.set_cons_zero, List.set_cons_succ]
            refine wpAnyH_take (i := 3) (v := ?_) rfl (by kernel_rfl) (by kernel_rfl) (by kernel_rfl) (fun _ _ _ h => h) (Or.inl ⟨by rfl, fun V hV => ?_⟩) (by assumption) ?_
            rotate_left
            · go_simp
              try with_reducible rfl
            try simp only [Act.put, List.getElem_toArray, List.getElem_cons_zero, List.getElem_cons_succ, List.setIfInBounds_toArray, List.set_cons_zero, List.set_cons_succ]
            refine wpAnyH_take (i := 4) (v := ?_) rfl (by kernel_rfl) (by kernel_rfl) (by kernel_rfl) (fun _ _ _ h => h) (Or.inl ⟨by rfl, fun V hV => ?_⟩) (by assumption) ?_
            rotate_left
            · obtain ⟨a0, a1, a2, a3, a4, a5⟩ := HQ.out; have hk0 := HKB.out.1; have hk1 := HKB.out.2; obtain ⟨r0, r1, r2, r3, r4, r5⟩ := HRB.out; have hw1 := HW1.out; go_simp
              try with_reducible rfl
            try simp only [Act.put, List.getElem_toArray, List.getElem_cons_zero, List.getElem_cons_succ, List.setIfInBounds_toArray, List.set_cons_zero, List.set_cons_succ]
            refine wpAnyH_take (i := 5) (v := ?_) rfl (by kernel_rfl) (by kernel_rfl) (by kernel_rfl) (fun _ _ _ h => h) (Or.inl ⟨by rfl, fun V hV => ?_⟩) (by assumption) ?_
            rotate_left
            · obtain ⟨a0, a1, a2, a3, a4, a5⟩ := HQ.out; have hk0 := HKB.out.1; have hk1 := HKB.out.2; obtain ⟨r0, r1, r2, r3, r4, r5⟩ := HRB.out; have hw1 := HW1.out; go_simp
              try with_reducible rfl
            try simp only [Act.put, List.getElem_toArray, List.getElem_cons_zero, List.getElem_cons_succ, List.setIfInBounds_toArray, List.set_cons_zero, List.set_cons_succ]
            refine wpAnyH_take (i := 6) (v := ?_) rfl (by kernel_rfl) (by kernel_rfl) (by kernel_rfl) (fun _ _ _ h => h) (Or.inl ⟨by rfl, fun V hV => ?_⟩) (by assumption) ?_
            rotate_left
            · go_simp
              try with_reducible rfl
            try simp only [Act.put, List.getElem_toArray, List.getElem_cons_zero, List.getElem_cons_succ, List.setIfInBounds_toArray, List.set_cons_zero, List.set_cons_succ]
            refine wpAnyH_take (i := 7) (v := ?_) rfl (by kernel_rfl) (by kernel_rfl) (by kernel_rfl) (fun _ _ _ h => h) (Or.inl ⟨by rfl, fun V hV => ?_⟩) (by assumption) ?_
            rotate_left
            · have hX := HX7.out.below hV.2; have d0 := (hX.2 0 (.int .i64 x.lo) rfl).1; have d1 := (hX.2 1 (.int .i64 x.hi) rfl).1; have d2 := (hX.2 2 (.int .i64 y.lo) rfl).1; have d3 := (hX.2 3 (.int .i64 y.hi) rfl).1; go_simp
              try with_reducible rfl
            try simp only [Act.put, List.getElem_toArray, List.getElem_cons_zero, List.getElem_cons_succ, List.setIfInBounds_toArray, List.set_cons_zero, List.set_cons_succ]
            refine wpAnyH_ready (rs := [8]) (by kernel_rfl) (by simp) ?_
            refine AllReadyH.cons (o := _) rfl (fun K hK => ?_) AllReadyH.nil
            go_simp
            (with_reducible refine (count_any y _ (by have := HRB.out; omega) (by have := HRB.out; omega) (by have := HRB.out; omega) (by have := HRB.out; omega)).mono ?_)
            rintro e s8 ⟨rfl, hb8⟩
            rw [HCN.out]
            refine hK.out _ _ (⟨hS.1.step hb8, hS.2.trans (hb8.mono hS.2.size)⟩) (fun hS => ?_)
            clear hK K
            try simp only [List.setIfInBounds_toArray, List.set_cons_zero, List.set_cons_succ]
            refine wpAnyH_take (i := 9) (v := ?_) rfl (by kernel_rfl) (by kernel_rfl) (by kernel_rfl) (fun _ _ _ h => h) (Or.inl ⟨by rfl, fun V hV => ?_⟩) (by assumption) ?_
            rotate_left
            · obtain ⟨a0, a1, a2, a3, a4, a5⟩ := HQ.out; have hk0 := HKB.out.1; have hk1 := HKB.out.2; obtain ⟨r0, r1, r2, r3, r4, r5⟩ := HRB.out; have hw1 := HW1.out; go_simp
              try with_reducible rfl
            try simp only [Act.put, List.getElem_toArray, List.getElem_cons_zero, List.getElem_cons_succ, List.setIfInBounds_toArray, List.set_cons_zero, List.set_cons_succ]
            refine wpAnyH_take (i := 10) (v := ?_) rfl (by kernel_rfl) (by kernel_rfl) (by kernel_rfl) (fun _ _ _ h => h) (Or.inl ⟨by rfl, fun V hV => ?_⟩) (by assumption) ?_
            rotate_left
            · obtain ⟨a0, a1, a2, a3, a4, a5⟩ := HQ.out; have hk0 := HKB.out.1; have hk1 := HKB.out.2; obtain ⟨r0, r1, r2, r3, r4, r5⟩ := HRB.out; have hw1 := HW1.out; go_simp
              try with_reducible rfl
            try simp only [Act.put, List.getElem_toArray, List.getElem_cons_zero, List.getElem_cons_succ, List.setIfInBounds_toArray, List.set_cons_zero, List.set_cons_succ]
            refine wpAnyH_take (i := 11) (v := ?_) rfl (by kernel_rfl) (by kernel_rfl) (by kernel_rfl) (fun _ _ _ h => h) (Or.inl ⟨by rfl, fun V hV => ?_⟩) (by assumption) ?_
            rotate_left
            · go_simp
              try with_reducible rfl
            try simp only [Act.put, List.getElem_toArray, List.getElem_cons_zero, List.getElem_cons_succ, List.setIfInBounds_toArray, List.set_cons_zero, List.set_cons_succ]
            refine wpAnyH_done (by kernel_rfl) ?_ _
            have HS8 := hid hS.1; have HX7 := hid (HX7.out.below hS.2); have HXA := hid (HXA.out.below hS.2); have HXB := hid (HXB.out.below hS.2)
            clear hS
            go_upto_region 12 with fail
            generalize s8 = W10 at HS8 HX7 HXA HXB ⊢
            obtain ⟨W10d, hW10d⟩ : ∃ V, W10.drew = V := ⟨_, rfl⟩
            have HS8 := hid HS8.out.drew; have HX7 := hid (HX7.out.below (Below.refl _ _).drew); have HXA := hid (HXA.out.below (Below.refl _ _).drew); have HXB := hid (HXB.out.below (Below.refl _ _).drew)
            rw [hW10d] at HS8 HX7 HXA HXB
            have hkb := HKB.out
            obtain ⟨r0, r1, r2, r3, r4, r5⟩ := HRB.out
            by_cases g1 : y.lo + k + 1 < y.hi
            · skip
              have HMM : Hid (minI y.hi (y.lo + k + 1) = (y.lo + k + 1)) := by show _ = _; rw [minI, if_pos g1]
              refine wp_region_held_drew (S := fun V => Boxed1 w #[.int .i64 s.wide, .int .i64 s.high, .int .i64 s.fall, .int .i64 s.a.lo, .int .i64 s.a.hi, .int .i64 s.b.lo, .int .i64 s.b.hi, .int .i64 s.half.lo, .int .i64 s.half.hi, .int .i64 s.peak.lo, .int .i64 s.peak.hi, .slice p n c] 26 V ∧ BoxIs w2.heap.size #[.int .i64 x.lo, .int .i64 x.hi, .int .i64 y.lo, .int .i64 y.hi] V) (by kernel_rfl) (by rw [hW10d]; exact ⟨HS8.out, HX7.out⟩) (fun hS => ?_)
              rw [hW10d] at hS ⊢
              clear hW10d
              simp only [List.size_toArray, List.length_cons, List.length_nil, Nat.reduceAdd, Array.replicate_succ, Array.replicate_zero, List.push_toArray, List.nil_append, List.cons_append]
              refine wpAnyH_take (i := 0) (v := ?_) rfl (by kernel_rfl) (by kernel_rfl) (by kernel_rfl) (fun _ _ _ h => h) (Or.inl ⟨by rfl, fun V hV => ?_⟩) (by assumption) ?_
              rotate_left
              · go_simp
                try with_reducible rfl
              try simp only [Act.put, List.getElem_toArray, List.getElem_cons_zero, List.setIfInBounds_toArray, List.set_cons_zero, List.set_cons_succ]
              refine wpAnyH_take (i := 1) (v := ?_) rfl (by kernel_rfl) (by kernel_rfl) (by kernel_rfl) (fun _ _ _ h => h) (Or.inl ⟨by rfl, fun V hV => ?_⟩) (by assumption) ?_
              rotate_left
              · go_simp
                try with_reducible rfl
              try simp only [Act.put, List.getElem_toArray, List.getElem_cons_zero, List.getElem_cons_succ, List.setIfInBounds_toArray, List.set_cons_zero, List.set_cons_succ]
              refine wpAnyH_take (i := 2) (v := ?_) rfl (by kernel_rfl) (by kernel_rfl) (by kernel_rfl) (fun _ _ _ h => h) (Or.inl ⟨by rfl, fun V hV => ?_⟩) (by assumption) ?_
              rotate_left
              · go_simp
                try with_reducible rfl
              try simp only [Act.put, List.getElem_toArray, List.getElem_cons_zero, List.getElem_cons_succ, List.setIfInBounds_toArray, List.set_cons_zero, List.set_cons_succ]
              refine wpAnyH_take (i := 3) (v := ?_) rfl (by kernel_rfl) (by kernel_rfl) (by kernel_rfl) (fun _ _ _ h => h) (Or.inl ⟨by rfl, fun V hV => ?_⟩) (by assumption) ?_
              rotate_left
              · have d0 := (hV.2.2 0 (.int .i64 x.lo) rfl).1; have d1 := (hV.2.2 1 (.int .i64 x.hi) rfl).1; have d2 := (hV.2.2 2 (.int .i64 y.lo) rfl).1; have d3 := (hV.2.2 3 (.int .i64 y.hi) rfl).1; go_simp
                try with_reducible rfl
              try simp only [Act.put, List.getElem_toArray, List.getElem_cons_zero, List.getElem_cons_succ, List.setIfInBounds_toArray, List.set_cons_zero, List.set_cons_succ]
              refine wpAnyH_take (i := 4) (v := ?_) rfl (by kernel_rfl) (by kernel_rfl) (by kernel_rfl) (fun _ _ _ h => h) (Or.inl ⟨by rfl, fun V hV => ?_⟩) (by assumption) ?_
              rotate_left
              · go_simp
                try with_reducible rfl
              try simp only [Act.put, List.getElem_toArray, List.getElem_cons_zero, List.getElem_cons_succ, List.setIfInBounds_toArray, List.set_cons_zero, List.set_cons_succ]
              refine wpAnyH_take (i := 5) (v := ?_) rfl (by kernel_rfl) (by kernel_rfl) (by kernel_rfl) (fun _ _ _ h => h) (Or.inl ⟨by rfl, fun V hV => ?_⟩) (by assumption) ?_
              rotate_left
              · obtain ⟨r0, r1, r2, r3, r4, r5⟩ := HRB.out; have hw1 := HW1.out; have hw2 := HW2.out; have hkb := HKB.out; go_simp
                try with_reducible rfl
              try simp only [Act.put, List.getElem_toArray, List.getElem_cons_zero, List.getElem_cons_succ, List.setIfInBounds_toArray, List.set_cons_zero, List.set_cons_succ]
              refine wpAnyH_take (i := 6) (v := ?_) rfl (by kernel_rfl) (by kernel_rfl) (by kernel_rfl) (fun _ _ _ h => h) (Or.inl ⟨by rfl, fun V hV => ?_⟩) (by assumption) ?_
              rotate_left
              · obtain ⟨r0, r1, r2, r3, r4, r5⟩ := HRB.out; have hw1 := HW1.out; have hw2 := HW2.out; have hkb := HKB.out; go_simp
                try with_reducible rfl
              try simp only [Act.put, List.getElem_toArray, List.getElem_cons_zero, List.getElem_cons_succ, List.setIfInBounds_toArray, List.set_cons_zero, List.set_cons_succ]
              refine wpAnyH_take (i := 7) (v := ?_) rfl (by kernel_rfl) (by kernel_rfl) (by kernel_rfl) (fun _ _ _ h => h) (Or.inl ⟨by rfl, fun V hV => ?_⟩) (by assumption) ?_
              rotate_left
              · go_simp
                try with_reducible rfl
              try simp only [Act.put, List.getElem_toArray, List.getElem_cons_zero, List.getElem_cons_succ, List.setIfInBounds_toArray, List.set_cons_zero, List.set_cons_succ]
              refine wpAnyH_take (i := 8) (v := ?_) rfl (by kernel_rfl) (by kernel_rfl) (by kernel_rfl) (fun _ _ _ h => h) (Or.inl ⟨by rfl, fun V hV => ?_⟩) (by assumption) ?_
              rotate_left
              · go_simp
                try with_reducible rfl
              try simp only [Act.put, List.getElem_toArray, List.getElem_cons_zero, List.getElem_cons_succ, List.setIfInBounds_toArray, List.set_cons_zero, List.set_cons_succ]
              refine wpAnyH_ready (rs := [9]) (by kernel_rfl) (by simp) ?_
              refine AllReadyH.cons (o := _) rfl (fun K hK => ?_) AllReadyH.nil
              have k0 := (HXA.out.2 3 (.int .i64 y.hi) rfl).1; have k1 := (HXA.out.2 3 (.int .i64 y.hi) rfl).2
              have HP := hid (HXA.out.put (j := 3) (.int .i64 (y.lo + k))); have HO := hid (HXB.out.other (b' := ba) (k' := 3) HNE.out.symm (.int .i64 (y.lo + k)))
              have HPW := hid (hS.1.step' ((Below.refl (w.heap.size + 1) W10d).setCell (p := ⟨ba, 3, none⟩) HLA.out (.int .i64 (y.lo + k))))
              have HP7 := hid (hS.2.other (b' := ba) (k' := 3) HNA.out (.int .i64 (y.lo + k)))
              clear hS
              go_simp
              clear k0 k1
              generalize (W10d.setCell ⟨ba, 3, none⟩ (.int .i64 (y.lo + k))) = V9 at HP HO HPW HP7 ⊢
              have HXA := HP; have HXB := HO
              refine hK.out _ _ (⟨HPW.out, HP7.out⟩) (fun hS => ?_)
              clear hK K
              try simp only [List.setIfInBounds_toArray, List.set_cons_zero, List.set_cons_succ]
              refine wpAnyH_take (i := 10) (v := ?_) rfl (by kernel_rfl) (by kernel_rfl) (by kernel_rfl) (fun _ _ _ h => h) (Or.inl ⟨by rfl, fun V hV => ?_⟩) (by assumption) ?_
              rotate_left
              · go_simp
                try with_reducible rfl
              try simp only [Act.put, List.getElem_toArray, List.getElem_cons_zero, List.getElem_cons_succ, List.setIfInBounds_toArray, List.set_cons_zero, List.set_cons_succ]
              refine wpAnyH_take (i := 11) (v := ?_) rfl (by kernel_rfl) (by kernel_rfl) (by kernel_rfl) (fun _ _ _ h => h) (Or.inl ⟨by rfl, fun V hV => ?_⟩) (by assumption) ?_
              rotate_left
              · go_simp
                try with_reducible rfl
              try simp only [Act.put, List.getElem_toArray, List.getElem_cons_zero, List.getElem_cons_succ, List.setIfInBounds_toArray, List.set_cons_zero, List.set_cons_succ]
              refine wpAnyH_ready (rs := [12]) (by kernel_rfl) (by simp) ?_
              refine AllReadyH.cons (o := _) rfl (fun K hK => ?_) AllReadyH.nil
              have k0 := (HXB.out.2 2 (.int .i64 y.lo) rfl).1; have k1 := (HXB.out.2 2 (.int .i64 y.lo) rfl).2
              have HP := hid (HXB.out.put (j := 2) (.int .i64 (y.lo + k + 1))); have HO := hid (HXA.out.other (b' := bb) (k' := 2) HNE.out (.int .i64 (y.lo + k + 1)))
              have HPW := hid (hS.1.step' ((Below.refl (w.heap.size + 1) V9).setCell (p := ⟨bb, 2, none⟩) HLB.out (.int .i64 (y.lo + k + 1))))
              have HP7 := hid (hS.2.other (b' := bb) (k' := 2) HNB.out (.int .i64 (y.lo + k + 1)))
              clear hS
              go_simp
              clear k0 k1
              generalize (V9.setCell ⟨bb, 2, none⟩ (.int .i64 (y.lo + k + 1))) = V12 at HP HO HPW HP7 ⊢
              have HXB := HP; have HXA := HO
              refine hK.out _ _ (⟨HPW.out, HP7.out⟩) (fun hS => ?_)
              clear hK K
              try simp only [List.setIfInBounds_toArray, List.set_cons_zero, List.set_cons_succ]
              refine wpAnyH_done (by kernel_rfl) ?_ _
              go_wp2
              go_meet
              case rel =>
                have hcb : cutB y k = ⟨(y.lo + k + 1), y.hi⟩ := by rw [cutB, HMM.out]
                refine ⟨x, (cutA y k), x, (cutB y k), hS.1, HXA.out, ?_, partsY HLNE.out HKB.out.1 HKB.out.2 HXI.out.1, ?_, ?_⟩
                · rw [hcb]; exact HXB.out
                · have h := HRC.out; rw [rectB, Bool.and_eq_true] at h ⊢; exact ⟨h.1, (cut_of HKB.out.1 HKB.out.2 h.2).1⟩
                · have h := HRC.out; rw [rectB, Bool.and_eq_true] at h ⊢; exact ⟨h.1, (cut_of HKB.out.1 HKB.out.2 h.2).2⟩
            · skip
              have HMM : Hid (minI y.hi (y.lo + k + 1) = y.hi) := by show _ = _; rw [minI, if_neg g1]
              refine wp_region_held_drew (S := fun V => Boxed1 w #[.int .i64 s.wide, .int .i64 s.high, .int .i64 s.fall, .int .i64 s.a.lo, .int .i64 s.a.hi, .int .i64 s.b.lo, .int .i64 s.b.hi, .int .i64 s.half.lo, .int .i64 s.half.hi, .int .i64 s.peak.lo, .int .i64 s.peak.hi, .slice p n c] 26 V ∧ BoxIs w2.heap.size #[.int .i64 x.lo, .int .i64 x.hi, .int .i64 y.lo, .int .i64 y.hi] V) (by kernel_rfl) (by rw [hW10d]; exact ⟨HS8.out, HX7.out⟩) (fun hS => ?_)
              rw [hW10d] at hS ⊢
              clear hW10d
              simp only [List.size_toArray, List.length_cons, List.length_nil, Nat.reduceAdd, Array.replicate_succ, Array.replicate_zero, List.push_toArray, List.nil_append, List.cons_append]
              refine wpAnyH_take (i := 0) (v := ?_) rfl (by kernel_rfl) (by kernel_rfl) (by kernel_rfl) (fun _ _ _ h => h) (Or.inl ⟨by rfl, fun V hV => ?_⟩) (by assumption) ?_
              rotate_left
              · go_simp
                try with_reducible rfl
              try simp only [Act.put, List.getElem_toArray, List.getElem_cons_zero, List.setIfInBounds_toArray, List.set_cons_zero, List.set_cons_succ]
              refine wpAnyH_take (i := 1) (v := ?_) rfl (by kernel_rfl) (by kernel_rfl) (by kernel_rfl) (fun _ _ _ h => h) (Or.inl ⟨by rfl, fun V hV => ?_⟩) (by assumption) ?_
              rotate_left
              · go_simp
                try with_reducible rfl
              try simp only [Act.put, List.getElem_toArray, List.getElem_cons_zero, List.getElem_cons_succ, List.setIfInBounds_toArray, List.set_cons_zero, List.set_cons_succ]
              refine wpAnyH_take (i := 2) (v := ?_) rfl (by kernel_rfl) (by kernel_rfl) (by kernel_rfl) (fun _ _ _ h => h) (Or.inl ⟨by rfl, fun V hV => ?_⟩) (by assumption) ?_
              rotate_left
              · go_simp
                try with_reducible rfl
              try simp only [Act.put, List.getElem_toArray, List.getElem_cons_zero, List.getElem_cons_succ, List.setIfInBounds_toArray, List.set_cons_zero, List.set_cons_succ]
              refine wpAnyH_take (i := 3) (v := ?_) rfl (by kernel_rfl) (by kernel_rfl) (by kernel_rfl) (fun _ _ _ h => h) (Or.inl ⟨by rfl, fun V hV => ?_⟩) (by assumption) ?_
              rotate_left
              · have d0 := (hV.2.2 0 (.int .i64 x.lo) rfl).1; have d1 := (hV.2.2 1 (.int .i64 x.hi) rfl).1; have d2 := (hV.2.2 2 (.int .i64 y.lo) rfl).1; have d3 := (hV.2.2 3 (.int .i64 y.hi) rfl).1; go_simp
                try with_reducible rfl
              try simp only [Act.put, List.getElem_toArray, List.getElem_cons_zero, List.getElem_cons_succ, List.setIfInBounds_toArray, List.set_cons_zero, List.set_cons_succ]
              refine wpAnyH_take (i := 4) (v := ?_) rfl (by kernel_rfl) (by kernel_rfl) (by kernel_rfl) (fun _ _ _ h => h) (Or.inl ⟨by rfl, fun V hV => ?_⟩) (by assumption) ?_
              rotate_left
              · go_simp
                try with_reducible rfl
              try simp only [Act.put, List.getElem_toArray, List.getElem_cons_zero, List.getElem_cons_succ, List.setIfInBounds_toArray, List.set_cons_zero, List.set_cons_succ]
              refine wpAnyH_take (i := 5) (v := ?_) rfl (by kernel_rfl) (by kernel_rfl) (by kernel_rfl) (fun _ _ _ h => h) (Or.inl ⟨by rfl, fun V hV => ?_⟩) (by assumption) ?_
              rotate_left
              · obtain ⟨r0, r1, r2, r3, r4, r5⟩ := HRB.out; have hw1 := HW1.out; have hw2 := HW2.out; have hkb := HKB.out; go_simp
                try with_reducible rfl
              try simp only [Act.put, List.getElem_toArray, List.getElem_cons_zero, List.getElem_cons_succ, List.setIfInBounds_toArray, List.set_cons_zero, List.set_cons_succ]
              refine wpAnyH_take (i := 6) (v := ?_) rfl (by kernel_rfl) (by kernel_rfl) (by kernel_rfl) (fun _ _ _ h => h) (Or.inl ⟨by rfl, fun V hV => ?_⟩) (by assumption) ?_
              rotate_left
              · obtain ⟨r0, r1, r2, r3, r4, r5⟩ := HRB.out; have hw1 := HW1.out; have hw2 := HW2.out; have hkb := HKB.out; go_simp
                try with_reducible rfl
              try simp only [Act.put, List.getElem_toArray, List.getElem_cons_zero, List.getElem_cons_succ, List.setIfInBounds_toArray, List.set_cons_zero, List.set_cons_succ]
              refine wpAnyH_take (i := 7) (v := ?_) rfl (by kernel_rfl) (by kernel_rfl) (by kernel_rfl) (fun _ _ _ h => h) (Or.inl ⟨by rfl, fun V hV => ?_⟩) (by assumption) ?_
              rotate_left
              · go_simp
                try with_reducible rfl
              try simp only [Act.put, List.getElem_toArray, List.getElem_cons_zero, List.getElem_cons_succ, List.setIfInBounds_toArray, List.set_cons_zero, List.set_cons_succ]
              refine wpAnyH_take (i := 8) (v := ?_) rfl (by kernel_rfl) (by kernel_rfl) (by kernel_rfl) (fun _ _ _ h => h) (Or.inl ⟨by rfl, fun V hV => ?_⟩) (by assumption) ?_
              rotate_left
              · go_simp
                try with_reducible rfl
              try simp only [Act.put, List.getElem_toArray, List.getElem_cons_zero, List.getElem_cons_succ, List.setIfInBounds_toArray, List.set_cons_zero, List.set_cons_succ]
              refine wpAnyH_ready (rs := [9]) (by kernel_rfl) (by simp) ?_
              refine AllReadyH.cons (o := _) rfl (fun K hK => ?_) AllReadyH.nil
              have k0 := (HXA.out.2 3 (.int .i64 y.hi) rfl).1; have k1 := (HXA.out.2 3 (.int .i64 y.hi) rfl).2
              have HP := hid (HXA.out.put (j := 3) (.int .i64 (y.lo + k))); have HO := hid (HXB.out.other (b' := ba) (k' := 3) HNE.out.symm (.int .i64 (y.lo + k)))
              have HPW := hid (hS.1.step' ((Below.refl (w.heap.size + 1) W10d).setCell (p := ⟨ba, 3, none⟩) HLA.out (.int .i64 (y.lo + k))))
              have HP7 := hid (hS.2.other (b' := ba) (k' := 3) HNA.out (.int .i64 (y.lo + k)))
              clear hS
              go_simp
              clear k0 k1
              generalize (W10d.setCell ⟨ba, 3, none⟩ (.int .i64 (y.lo + k))) = V9 at HP HO HPW HP7 ⊢
              have HXA := HP; have HXB := HO
              refine hK.out _ _ (⟨HPW.out, HP7.out⟩) (fun hS => ?_)
              clear hK K
              try simp only [List.setIfInBounds_toArray, List.set_cons_zero, List.set_cons_succ]
              refine wpAnyH_take (i := 10) (v := ?_) rfl (by kernel_rfl) (by kernel_rfl) (by kernel_rfl) (fun _ _ _ h => h) (Or.inl ⟨by rfl, fun V hV => ?_⟩) (by assumption) ?_
              rotate_left
              · go_simp
                try with_reducible rfl
              try simp only [Act.put, List.getElem_toArray, List.getElem_cons_zero, List.getElem_cons_succ, List.setIfInBounds_toArray, List.set_cons_zero, List.set_cons_succ]
              refine wpAnyH_take (i := 11) (v := ?_) rfl (by kernel_rfl) (by kernel_rfl) (by kernel_rfl) (fun _ _ _ h => h) (Or.inl ⟨by rfl, fun V hV => ?_⟩) (by assumption) ?_
              rotate_left
              · go_simp
                try with_reducible rfl
              try simp only [Act.put, List.getElem_toArray, List.getElem_cons_zero, List.getElem_cons_succ, List.setIfInBounds_toArray, List.set_cons_zero, List.set_cons_succ]
              refine wpAnyH_ready (rs := [12]) (by kernel_rfl) (by simp) ?_
              refine AllReadyH.cons (o := _) rfl (fun K hK => ?_) AllReadyH.nil
              have k0 := (HXB.out.2 2 (.int .i64 y.lo) rfl).1; have k1 := (HXB.out.2 2 (.int .i64 y.lo) rfl).2
              have HP := hid (HXB.out.put (j := 2) (.int .i64 y.hi)); have HO := hid (HXA.out.other (b' := bb) (k' := 2) HNE.out (.int .i64 y.hi))
              have HPW := hid (hS.1.step' ((Below.refl (w.heap.size + 1) V9).setCell (p := ⟨bb, 2, none⟩) HLB.out (.int .i64 y.hi)))
              have HP7 := hid (hS.2.other (b' := bb) (k' := 2) HNB.out (.int .i64 y.hi))
              clear hS
              go_simp
              clear k0 k1
              generalize (V9.setCell ⟨bb, 2, none⟩ (.int .i64 y.hi)) = V12 at HP HO HPW HP7 ⊢
              have HXB := HP; have HXA := HO
              refine hK.out _ _ (⟨HPW.out, HP7.out⟩) (fun hS => ?_)
              clear hK K
              try simp only [List.setIfInBounds_toArray, List.set_cons_zero, List.set_cons_succ]
              refine wpAnyH_done (by kernel_rfl) ?_ _
              go_wp2
              go_meet
              case rel =>
                have hcb : cutB y k = ⟨y.hi, y.hi⟩ := by rw [cutB, HMM.out]
                refine ⟨x, (cutA y k), x, (cutB y k), hS.1, HXA.out, ?_, partsY HLNE.out HKB.out.1 HKB.out.2 HXI.out.1, ?_, ?_⟩
                · rw [hcb]; exact HXB.out
                · have h := HRC.out; rw [rectB, Bool.and_eq_true] at h ⊢; exact ⟨h.1, (cut_of HKB.out.1 HKB.out.2 h.2).1⟩
                · have h := HRC.out; rw [rectB, Bool.and_eq_true] at h ⊢; exact ⟨h.1, (cut_of HKB.out.1 HKB.out.2 h.2).2⟩
        case rest =>
          obtain ⟨xa, ya, xb, yb, hw, hfa, hfb, hpk, hra, hrb⟩ := hcut
          have HU9 := hid hw; have HBA := hid hfa; have HBB := hid hfb; have HPK := hid hpk
          have HVAE : Hid (sureE s (rectB s xa ya) = 0) := by show _ = _; rw [sure_eq HOK.out hra, if_neg HLNE.out]
          have HVBE : Hid (sureE s (rectB s xb yb) = 0) := by show _ = _; rw [sure_eq HOK.out hrb, if_neg HLNE.out]
          have HVAV : Hid (verdV s xa ya = verdT s (truthL s) xa ya) := by show _ = _; rw [verdV, if_pos HVAE.out]
          have HVBV : Hid (verdV s xb yb = verdT s (truthL s) xb yb) := by show _ = _; rw [verdV, if_pos HVBE.out]
          clear hw hfa hfb hpk hra hrb hu hu2
          generalize wc = U9 at HU9 HBA HBB ⊢
          go_upto_region 13 with fail
          refine wp_region_held_drew (S := fun V => Boxed1 w #[.int .i64 s.wide, .int .i64 s.high, .int .i64 s.fall, .int .i64 s.a.lo, .int .i64 s.a.hi, .int .i64 s.b.lo, .int .i64 s.b.hi, .int .i64 s.half.lo, .int .i64 s.half.hi, .int .i64 s.peak.lo, .int .i64 s.peak.hi, .slice p n c] 26 V ∧ Below U9.heap.size U9 V) (by kernel_rfl) (⟨HU9.out.drew, (Below.refl _ _).drew⟩) (fun hS => ?_)
          simp only [List.size_toArray, List.length_cons, List.length_nil, Nat.reduceAdd, Array.replicate_succ, Array.replicate_zero, List.push_toArray, List.nil_append, List.cons_append]
          refine wpAnyH_take (i := 0) (v := ?_) rfl (by kernel_rfl) (by kernel_rfl) (by kernel_rfl) (fun _ _ _ h => h) (Or.inl ⟨by rfl, fun V hV => ?_⟩) (by assumption) ?_
          rotate_left
          · have e0 := (StoAt.of hV.1.cell).c0; have e1 := (StoAt.of hV.1.cell).c1; have e2 := (StoAt.of hV.1.cell).c2; have e3 := (StoAt.of hV.1.cell).c3; have e4 := (StoAt.of hV.1.cell).c4; have e5 := (StoAt.of hV.1.cell).c5; have e6 := (StoAt.of hV.1.cell).c6; have e7 := (StoAt.of hV.1.cell).c7; have e8 := (StoAt.of hV.1.cell).c8; have e9 := (StoAt.of hV.1.cell).c9; have e10 := (StoAt.of hV.1.cell).c10; have e11 := (StoAt.of hV.1.cell).c11; go_simp
            try with_reducible rfl
          try simp only [Act.put, List.getElem_toArray, List.getElem_cons_zero, List.setIfInBounds_toArray, List.set_cons_zero, List.set_cons_succ]
          refine wpAnyH_take (i := 2) (v := ?_) rfl (by kernel_rfl) (by kernel_rfl) (by kernel_rfl) (fun _ _ _ h => h) (Or.inl ⟨by rfl, fun V hV => ?_⟩) (by assumption) ?_
          rotate_left
          · have hX := HBA.out.below hV.2; have d0 := (hX.2 0 (.int .i64 xa.lo) rfl).1; have d1 := (hX.2 1 (.int .i64 xa.hi) rfl).1; have d2 := (hX.2 2 (.int .i64 ya.lo) rfl).1; have d3 := (hX.2 3 (.int .i64 ya.hi) rfl).1; go_simp
            try with_reducible rfl
          try simp only [Act.put, List.getElem_toArray, List.getElem_cons_zero, List.getElem_cons_succ, List.setIfInBounds_toArray, List.set_cons_zero, List.set_cons_succ]
          refine wpAnyH_ready (rs := [1]) (by kernel_rfl) (by simp) ?_
          refine AllReadyH.cons (o := _) rfl (fun K hK => ?_) AllReadyH.nil
          go_simp
          refine (storm20_any s p n c _ (HC.out.below hS.1.below) HN.out).mono ?_
          rintro e s1 ⟨q9, m9, d9, rfl, hc9, hb⟩
          have HQ9 := hid hc9
          refine hK.out _ _ (⟨hS.1.step hb, hS.2.trans (hb.mono hS.2.size)⟩) (fun hS => ?_)
          clear hK K
          try simp only [List.setIfInBounds_toArray, List.set_cons_zero, List.set_cons_succ]
          refine wpAnyH_ready (rs := [3]) (by kernel_rfl) (by simp) ?_
          refine AllReadyH.cons (o := _) rfl (fun K hK => ?_) AllReadyH.nil
          go_simp
          (with_reducible refine (rect40_any xa ya _).mono ?_)
          rintro e s3 ⟨rfl, hb3⟩
          have HQ9 := hid (HQ9.out.below hb3)
          refine hK.out _ _ (⟨hS.1.step hb3, hS.2.trans (hb3.mono hS.2.size)⟩) (fun hS => ?_)
          clear hK K
          try simp only [List.setIfInBounds_toArray, List.set_cons_zero, List.set_cons_succ]
          refine wpAnyH_ready (rs := [4]) (by kernel_rfl) (by simp) ?_
          refine AllReadyH.cons (o := _) rfl (fun K hK => ?_) AllReadyH.nil
          go_simp
          refine (verdict_any s q9 m9 d9 xa ya _ HQ9.out).mono ?_
          rintro e s4 ⟨rfl, hb4⟩
          rw [HVAV.out, HVAE.out]
          refine hK.out _ _ (⟨hS.1.step hb4, hS.2.trans (hb4.mono hS.2.size)⟩) (fun hS => ?_)
          clear hK K
          try simp only [List.setIfInBounds_toArray, List.set_cons_zero, List.set_cons_succ]
          refine wpAnyH_take (i := 5) (v := ?_) rfl (by kernel_rfl) (by kernel_rfl) (by kernel_rfl) (fun _ _ _ h => h) (Or.inl ⟨by rfl, fun V hV => ?_⟩) (by assumption) ?_
          rotate_left
          · go_simp
            try with_reducible rfl
          try simp only [Act.put, List.getElem_toArray, List.getElem_cons_zero, List.getElem_cons_succ, List.setIfInBounds_toArray, List.set_cons_zero, List.set_cons_succ]
          refine wpAnyH_take (i := 6) (v := ?_) rfl (by kernel_rfl) (by kernel_rfl) (by kernel_rfl) (fun _ _ _ h => h) (Or.inl ⟨by rfl, fun V hV => ?_⟩) (by assumption) ?_
          rotate_left
          · go_simp
            try with_reducible rfl
          try simp only [Act.put, List.getElem_toArray, List.getElem_cons_zero, List.getElem_cons_succ, List.setIfInBounds_toArray, List.set_cons_zero, List.set_cons_succ]
          refine wpAnyH_take (i := 7) (v := ?_) rfl (by kernel_rfl) (by kernel_rfl) (by kernel_rfl) (fun _ _ _ h => h) (Or.inl ⟨by rfl, fun V hV => ?_⟩) (by assumption) ?_
          rotate_left
          · go_simp
            try with_reducible rfl
          try simp only [Act.put, List.getElem_toArray, List.getElem_cons_zero, List.getElem_cons_succ, List.setIfInBounds_toArray, List.set_cons_zero, List.set_cons_succ]
          refine wpAnyH_take (i := 8) (v := ?_) rfl (by kernel_rfl) (by kernel_rfl) (by kernel_rfl) (fun _ _ _ h => h) (Or.inl ⟨by rfl, fun V hV => ?_⟩) (by assumption) ?_
          rotate_left
          · go_simp
            try with_reducible rfl
          try simp only [Act.put, List.getElem_toArray, List.getElem_cons_zero, List.getElem_cons_succ, List.setIfInBounds_toArray, List.set_cons_zero, List.set_cons_succ]
          refine wpAnyH_take (i := 9) (v := ?_) rfl (by kernel_rfl) (by kernel_rfl) (by kernel_rfl) (fun _ _ _ h => h) (Or.inl ⟨by rfl, fun V hV => ?_⟩) (by assumption) ?_
          rotate_left
          · go_simp
            try with_reducible rfl
          try simp only [Act.put, List.getElem_toArray, List.getElem_cons_zero, List.getElem_cons_succ, List.setIfInBounds_toArray, List.set_cons_zero, List.set_cons_succ]
          refine wpAnyH_done (by kernel_rfl) ?_ _
          have HU13 := hid hS.1; have HBB := hid (HBB.out.below hS.2)
          clear hS
          go_upto_region 14 with fail
          generalize s4 = U13 at HU13 HBB ⊢
          refine wp_region_held_drew (S := fun V => Boxed1 w #[.int .i64 s.wide, .int .i64 s.high, .int .i64 s.fall, .int .i64 s.a.lo, .int .i64 s.a.hi, .int .i64 s.b.lo, .int .i64 s.b.hi, .int .i64 s.half.lo, .int .i64 s.half.hi, .int .i64 s.peak.lo, .int .i64 s.peak.hi, .slice p n c] 26 V ∧ Below U13.heap.size U13 V) (by kernel_rfl) (⟨HU13.out.drew, (Below.refl _ _).drew⟩) (fun hS => ?_)
          simp only [List.size_toArray, List.length_cons, List.length_nil, Nat.reduceAdd, Array.replicate_succ, Array.replicate_zero, List.push_toArray, List.nil_append, List.cons_append]
          refine wpAnyH_take (i := 0) (v := ?_) rfl (by kernel_rfl) (by kernel_rfl) (by kernel_rfl) (fun _ _ _ h => h) (Or.inl ⟨by rfl, fun V hV => ?_⟩) (by assumption) ?_
          rotate_left
          · have e0 := (StoAt.of hV.1.cell).c0; have e1 := (StoAt.of hV.1.cell).c1; have e2 := (StoAt.of hV.1.cell).c2; have e3 := (StoAt.of hV.1.cell).c3; have e4 := (StoAt.of hV.1.cell).c4; have e5 := (StoAt.of hV.1.cell).c5; have e6 := (StoAt.of hV.1.cell).c6; have e7 := (StoAt.of hV.1.cell).c7; have e8 := (StoAt.of hV.1.cell).c8; have e9 := (StoAt.of hV.1.cell).c9; have e10 := (StoAt.of hV.1.cell).c10; have e11 := (StoAt.of hV.1.cell).c11; go_simp
            try with_reducible rfl
          try simp only [Act.put, List.getElem_toArray, List.getElem_cons_zero, List.setIfInBounds_toArray, List.set_cons_zero, List.set_cons_succ]
          refine wpAnyH_take (i := 2) (v := ?_) rfl (by kernel_rfl) (by kernel_rfl) (by kernel_rfl) (fun _ _ _ h => h) (Or.inl ⟨by rfl, fun V hV => ?_⟩) (by assumption) ?_
          rotate_left
          · have hX := HBB.out.below hV.2; have d0 := (hX.2 0 (.int .i64 xb.lo) rfl).1; have d1 := (hX.2 1 (.int .i64 xb.hi) rfl).1; have d2 := (hX.2 2 (.int .i64 yb.lo) rfl).1; have d3 := (hX.2 3 (.int .i64 yb.hi) rfl).1; go_simp
            try with_reducible rfl
          try simp only [Act.put, List.getElem_toArray, List.getElem_cons_zero, List.getElem_cons_succ, List.setIfInBounds_toArray, List.set_cons_zero, List.set_cons_succ]
          refine wpAnyH_ready (rs := [1]) (by kernel_rfl) (by simp) ?_
          refine AllReadyH.cons (o := _) rfl (fun K hK => ?_) AllReadyH.nil
          go_simp
          refine (storm20_any s p n c _ (HC.out.below hS.1.below) HN.out).mono ?_
          rintro e s1 ⟨q9, m9, d9, rfl, hc9, hb⟩
          have HQ9 := hid hc9
          refine hK.out _ _ (⟨hS.1.step hb, hS.2.trans (hb.mono hS.2.size)⟩) (fun hS => ?_)
          clear hK K
          try simp only [List.setIfInBounds_toArray, List.set_cons_zero, List.set_cons_succ]
          refine wpAnyH_ready (rs := [3]) (by kernel_rfl) (by simp) ?_
          refine AllReadyH.cons (o := _) rfl (fun K hK => ?_) AllReadyH.nil
          go_simp
          (with_reducible refine (rect40_any xb yb _).mono ?_)
          rintro e s3 ⟨rfl, hb3⟩
          have HQ9 := hid (HQ9.out.below hb3)
          refine hK.out _ _ (⟨hS.1.step hb3, hS.2.trans (hb3.mono hS.2.size)⟩) (fun hS => ?_)
          clear hK K
          try simp only [List.setIfInBounds_toArray, List.set_cons_zero, List.set_cons_succ]
          refine wpAnyH_ready (rs := [4]) (by kernel_rfl) (by simp) ?_
          refine AllReadyH.cons (o := _) rfl (fun K hK => ?_) AllReadyH.nil
          go_simp
          refine (verdict_any s q9 m9 d9 xb yb _ HQ9.out).mono ?_
          rintro e s4 ⟨rfl, hb4⟩
          rw [HVBV.out, HVBE.out]
          refine hK.out _ _ (⟨hS.1.step hb4, hS.2.trans (hb4.mono hS.2.size)⟩) (fun hS => ?_)
          clear hK K
          try simp only [List.setIfInBounds_toArray, List.set_cons_zero, List.set_cons_succ]
          refine wpAnyH_take (i := 5) (v := ?_) rfl (by kernel_rfl) (by kernel_rfl) (by kernel_rfl) (fun _ _ _ h => h) (Or.inl ⟨by rfl, fun V hV => ?_⟩) (by assumption) ?_
          rotate_left
          · go_simp
            try with_reducible rfl
          try simp only [Act.put, List.getElem_toArray, List.getElem_cons_zero, List.getElem_cons_succ, List.setIfInBounds_toArray, List.set_cons_zero, List.set_cons_succ]
          refine wpAnyH_take (i := 6) (v := ?_) rfl (by kernel_rfl) (by kernel_rfl) (by kernel_rfl) (fun _ _ _ h => h) (Or.inl ⟨by rfl, fun V hV => ?_⟩) (by assumption) ?_
          rotate_left
          · go_simp
            try with_reducible rfl
          try simp only [Act.put, List.getElem_toArray, List.getElem_cons_zero, List.getElem_cons_succ, List.setIfInBounds_toArray, List.set_cons_zero, List.set_cons_succ]
          refine wpAnyH_take (i := 7) (v := ?_) rfl (by kernel_rfl) (by kernel_rfl) (by kernel_rfl) (fun _ _ _ h => h) (Or.inl ⟨by rfl, fun V hV => ?_⟩) (by assumption) ?_
          rotate_left
          · go_simp
            try with_reducible rfl
          try simp only [Act.put, List.getElem_toArray, List.getElem_cons_zero, List.getElem_cons_succ, List.setIfInBounds_toArray, List.set_cons_zero, List.set_cons_succ]
          refine wpAnyH_take (i := 8) (v := ?_) rfl (by kernel_rfl) (by kernel_rfl) (by kernel_rfl) (fun _ _ _ h => h) (Or.inl ⟨by rfl, fun V hV => ?_⟩) (by assumption) ?_
          rotate_left
          · go_simp
            try with_reducible rfl
          try simp only [Act.put, List.getElem_toArray, List.getElem_cons_zero, List.getElem_cons_succ, List.setIfInBounds_toArray, List.set_cons_zero, List.set_cons_succ]
          refine wpAnyH_take (i := 9) (v := ?_) rfl (by kernel_rfl) (by kernel_rfl) (by kernel_rfl) (fun _ _ _ h => h) (Or.inl ⟨by rfl, fun V hV => ?_⟩) (by assumption) ?_
          rotate_left
          · go_simp
            try with_reducible rfl
          try simp only [Act.put, List.getElem_toArray, List.getElem_cons_zero, List.getElem_cons_succ, List.setIfInBounds_toArray, List.set_cons_zero, List.set_cons_succ]
          refine wpAnyH_done (by kernel_rfl) ?_ _
          have HS14 := hid hS.1
          clear hS
          obtain hok := HPK.out
          unfold PartsOk at hok
          rcases hok with ⟨h1, h2, h3⟩ | ⟨h1, h2, h3⟩ | ⟨h1, h2, h3⟩ | ⟨h1, h2, h3⟩ | ⟨h1, h2, h3⟩ | ⟨h1, h2, h3⟩ | ⟨h1, h2, h3⟩ | ⟨h1, h2, h3⟩ | ⟨h1, h2, h3⟩ <;> rw [h1, h2, h3] <;> clear h1 h2 h3
          all_goals go_wp2_with fail
          all_goals refine (awake_any _).mono ?_
          all_goals rintro e w9 ⟨rfl, hb9⟩
          all_goals go_wp2_with fail
          all_goals go_ret
          all_goals exact ⟨rfl, HS14.out.below.trans (hb9.mono HS14.out.below.size)⟩
end Go.Proofs.Ytfnefkenheglhaa
