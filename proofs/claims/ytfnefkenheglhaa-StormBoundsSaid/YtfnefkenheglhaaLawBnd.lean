/- StormBounds: the error of any storm, its bounds, and whether any truth is one of it, are as the document says, or the error is: all truths are tried. For each storm and each truth. -/
import Derived.Test.YtfnefkenheglhaaLawSam
import Derived.Test.YtfnefkenheglhaaLawS0
import Derived.Test.YtfnefkenheglhaaPlS
import Derived.Test.YtfnefkenheglhaaA15
import Derived.Test.YtfnefkenheglhaaP13
import Derived.Test.YtfnefkenheglhaaLawAwake
namespace Go.Proofs.Ytfnefkenheglhaa
open Go.RowKit

def Lat (w W : World) : Prop := Below w.heap.size w W
theorem Lat.below {w W W' : World} (h : Lat w W) (hb : Below W.heap.size W W') : Lat w W' := Below.trans h (hb.mono (Below.size h))
theorem thin_n3 {s : Sto} (h : thinB s = true) : s.cards.length ≤ 9 := by
  unfold thinB at h
  rw [Bool.and_eq_true, decide_eq_true_eq] at h
  exact h.1
theorem bounds_bad (s : Sto) (p : Option Addr) (n c : Nat) (w : World) (hcs : CrdsAt w p n s.cards) (E : Int) (hE : sureE s true = E) (h0 : E ≠ 0) :
    Calls Try.prog 38 #[.agg #[.int .i64 s.wide, .int .i64 s.high, .int .i64 s.fall, .int .i64 s.a.lo, .int .i64 s.a.hi, .int .i64 s.b.lo, .int .i64 s.b.hi, .int .i64 s.half.lo, .int .i64 s.half.hi, .int .i64 s.peak.lo, .int .i64 s.peak.hi, .slice p n c]] w fun e w' => ∃ q m d, e = .returned (.tuple #[.agg #[.int .i64 0, .int .i64 0, .int .i64 0, .int .i64 0, .int .i64 0, .int .i64 0, .int .i64 0, .int .i64 0, .int .i64 0, .int .i64 0, .int .i64 0, .slice q m d], .int .i64 E]) ∧ CrdsAt w' q m [] ∧ Below w.heap.size w w' := by
  have hz : boundS s = zeroS := if_neg (by rw [hE]; exact h0)
  refine (bounds_any s p n c w hcs).mono ?_
  rintro e w' ⟨q, m, d, h1, h2, h3⟩
  rw [hz] at h1 h2
  rw [hE] at h1
  exact ⟨q, m, d, h1, h2, h3⟩
theorem bounds_good (s : Sto) (p : Option Addr) (n c : Nat) (w : World) (hcs : CrdsAt w p n s.cards) (hE : sureE s true = 0) :
    Calls Try.prog 38 #[.agg #[.int .i64 s.wide, .int .i64 s.high, .int .i64 s.fall, .int .i64 s.a.lo, .int .i64 s.a.hi, .int .i64 s.b.lo, .int .i64 s.b.hi, .int .i64 s.half.lo, .int .i64 s.half.hi, .int .i64 s.peak.lo, .int .i64 s.peak.hi, .slice p n c]] w fun e w' => ∃ q m d, e = .returned (.tuple #[.agg #[.int .i64 (bndS s).wide, .int .i64 (bndS s).high, .int .i64 (bndS s).fall, .int .i64 (bndS s).a.lo, .int .i64 (bndS s).a.hi, .int .i64 (bndS s).b.lo, .int .i64 (bndS s).b.hi, .int .i64 (bndS s).half.lo, .int .i64 (bndS s).half.hi, .int .i64 (bndS s).peak.lo, .int .i64 (bndS s).peak.hi, .slice q m d], .int .i64 0]) ∧ CrdsAt w' q m s.cards ∧ Below w.heap.size w w' := by
  have hz : boundS s = bndS s := if_pos hE
  refine (bounds_any s p n c w hcs).mono ?_
  rintro e w' ⟨q, m, d, h1, h2, h3⟩
  rw [hz] at h1 h2
  rw [hE] at h1
  exact ⟨q, m, d, h1, h2, h3⟩
theorem tru_bd {s : Sto} (ok : OkS s) {t : Tru} (ht : t ∈ truthL s) : (-1000000 ≤ t.a ∧ t.a ≤ 1000000) ∧ (-1000000 ≤ t.b ∧ t.b ≤ 1000000) ∧ (-1000000 ≤ t.half ∧ t.half ≤ 1000000) ∧ (-1000000 ≤ t.peak ∧ t.peak ≤ 1000000) := by
  have h := truth_in ht
  simp only [truB, inB, Bool.and_eq_true, decide_eq_true_eq] at h
  have a := Rng.of_iff.1 ok.a; have b := Rng.of_iff.1 ok.b; have c := Rng.of_iff.1 ok.half; have d := Rng.of_iff.1 ok.peak
  have := ok.h12
  omega

set_option maxRecDepth 40000 in
set_option maxHeartbeats 16000000 in
theorem stormBounds_any (s : Sto) (p : Option Addr) (n c : Nat) (t : Tru) (w : World) (hcs : CrdsAt w p n s.cards) :
    Calls Try.prog 13 #[.agg #[.int .i64 s.wide, .int .i64 s.high, .int .i64 s.fall, .int .i64 s.a.lo, .int .i64 s.a.hi, .int .i64 s.b.lo, .int .i64 s.b.hi, .int .i64 s.half.lo, .int .i64 s.half.hi, .int .i64 s.peak.lo, .int .i64 s.peak.hi, .slice p n c], .agg #[.int .i64 t.a, .int .i64 t.b, .int .i64 t.half, .int .i64 t.peak]] w fun e w' => e = .returned (.bool true) ∧ Below w.heap.size w w' := by
  have HC := hid hcs
  have HTH := hid (fun W (hb : Below w.heap.size w W) => thin_any s p n c W (hcs.below hb))
  have HFL := hid (fun W (hb : Below w.heap.size w W) => faultL_any s p n c W (hcs.below hb))
  have HFT := hid (fun W (hb : Below w.heap.size w W) => fault_any s p n c W (hcs.below hb))
  clear hcs
  have H0 : Hid (Boxed2 w #[.int .i64 s.wide, .int .i64 s.high, .int .i64 s.fall, .int .i64 s.a.lo, .int .i64 s.a.hi, .int .i64 s.b.lo, .int .i64 s.b.hi, .int .i64 s.half.lo, .int .i64 s.half.hi, .int .i64 s.peak.lo, .int .i64 s.peak.hi, .slice p n c] 26 #[.int .i64 t.a, .int .i64 t.b, .int .i64 t.half, .int .i64 t.peak] 92 ((w.alloc (.cells #[.int .i64 s.wide, .int .i64 s.high, .int .i64 s.fall, .int .i64 s.a.lo, .int .i64 s.a.hi, .int .i64 s.b.lo, .int .i64 s.b.hi, .int .i64 s.half.lo, .int .i64 s.half.hi, .int .i64 s.peak.lo, .int .i64 s.peak.hi, .slice p n c] 26)).alloc (.cells #[.int .i64 t.a, .int .i64 t.b, .int .i64 t.half, .int .i64 t.peak] 92))) := Below.refl _ _
  go_enter Try.func13, Try.ntmps13
  go_wp2_with fail
  (with_reducible refine (HTH.out _ ?_).mono ?_)
  · exact H0.out.below
  rintro e w1 ⟨rfl, hb⟩
  have H1 := hid (H0.out.step (hb.mono (by have := H0.out.size; omega)))
  clear hb
  cases hth : thinB s
  · clear hth
    go_wp2_with fail
    refine (awake_any _).mono ?_
    rintro e w99 ⟨rfl, hb⟩
    go_wp2_with fail
    go_ret
    exact ⟨rfl, H1.out.below.trans (hb.mono H1.out.below.size)⟩
  · have hn9 := thin_n3 hth
    have HN9 : Hid (n ≤ 1000) := hid (by have := HC.out.1; omega)
    clear hth
    by_cases hF : faultS s = 0
    · have HOK := hid (fault_iff.1 hF)
      have HF := hid hF
      obtain ⟨B, hB⟩ : ∃ v, isTruB s t = v := ⟨_, rfl⟩
      have HIT := hid hB
      have HPR : Hid (provedB s t = B) := by show _ = _; rw [← hB]; unfold provedB isTruB; rw [hF]; rfl
      clear hB
      by_cases hL : truthL s = []
      · have HE : Hid (sureE s true = 11) := by show _ = _; rw [sureE, if_pos hF, if_pos rfl, if_pos hL]
        clear hF hL
        have e0 := (StoAt.of H1.out.cell1).c0; have e1 := (StoAt.of H1.out.cell1).c1; have e2 := (StoAt.of H1.out.cell1).c2; have e3 := (StoAt.of H1.out.cell1).c3; have e4 := (StoAt.of H1.out.cell1).c4; have e5 := (StoAt.of H1.out.cell1).c5; have e6 := (StoAt.of H1.out.cell1).c6; have e7 := (StoAt.of H1.out.cell1).c7; have e8 := (StoAt.of H1.out.cell1).c8; have e9 := (StoAt.of H1.out.cell1).c9; have e10 := (StoAt.of H1.out.cell1).c10; have e11 := (StoAt.of H1.out.cell1).c11
        go_wp2_with fail
        refine (storm20_any s p n c w1 (HC.out.below H1.out.below) HN9.out).mono ?_
        rintro e w2 ⟨q1, m1, d1, rfl, hc, hb⟩
        have H2 := hid (H1.out.step (hb.mono (by have := H1.out.size; omega)))
        have HK1 := hid hc
        clear e0 e1 e2 e3 e4 e5 e6 e7 e8 e9 e10 e11 hb hc
        go_wp2_with fail
        refine (bounds_bad s q1 m1 d1 _ HK1.out 11 HE.out (by decide)).mono ?_
        rintro e w3 ⟨q, m, d, rfl, hc, hb⟩
        have H3 := hid (H2.out.step (hb.mono (by have := H2.out.size; omega)))
        replace HK1 := hid (HK1.out.below hb)
        have HQ := hid hc
        clear hb hc
        obtain ⟨w4, hw4⟩ : ∃ V, (w3.alloc (.cells #[.int .i64 0, .int .i64 0, .int .i64 0, .int .i64 0, .int .i64 0, .int .i64 0, .int .i64 0, .int .i64 0, .int .i64 0, .int .i64 0, .int .i64 0, .slice q m d] 35)) = V := ⟨_, rfl⟩
        have H4 : Hid (Boxed2 w #[.int .i64 s.wide, .int .i64 s.high, .int .i64 s.fall, .int .i64 s.a.lo, .int .i64 s.a.hi, .int .i64 s.b.lo, .int .i64 s.b.hi, .int .i64 s.half.lo, .int .i64 s.half.hi, .int .i64 s.peak.lo, .int .i64 s.peak.hi, .slice p n c] 26 #[.int .i64 t.a, .int .i64 t.b, .int .i64 t.half, .int .i64 t.peak] 92 w4) := by show Boxed2 w #[.int .i64 s.wide, .int .i64 s.high, .int .i64 s.fall, .int .i64 s.a.lo, .int .i64 s.a.hi, .int .i64 s.b.lo, .int .i64 s.b.hi, .int .i64 s.half.lo, .int .i64 s.half.hi, .int .i64 s.peak.lo, .int .i64 s.peak.hi, .slice p n c] 26 #[.int .i64 t.a, .int .i64 t.b, .int .i64 t.half, .int .i64 t.peak] 92 w4; rw [← hw4]; exact H3.out.alloc _
        have HX : Hid (BoxIs w3.heap.size #[.int .i64 0, .int .i64 0, .int .i64 0, .int .i64 0, .int .i64 0, .int .i64 0, .int .i64 0, .int .i64 0, .int .i64 0, .int .i64 0, .int .i64 0, .slice q m d] w4) := by show BoxIs _ _ _; rw [← hw4]; exact BoxIs.start _ _ _
        have HBB : Hid (Below w3.heap.size w3 w4) := hid (by rw [← hw4]; exact (Below.refl _ _).alloc (Nat.le_refl _) _)
        replace HQ := hid (HQ.out.below HBB.out)
        go_upto_region 4 with fail
        clear hw4 HBB 
        refine wp_region_held_drew (S := fun V => Boxed2 w #[.int .i64 s.wide, .int .i64 s.high, .int .i64 s.fall, .int .i64 s.a.lo, .int .i64 s.a.hi, .int .i64 s.b.lo, .int .i64 s.b.hi, .int .i64 s.half.lo, .int .i64 s.half.hi, .int .i64 s.peak.lo, .int .i64 s.peak.hi, .slice p n c] 26 #[.int .i64 t.a, .int .i64 t.b, .int .i64 t.half, .int .i64 t.peak] 92 V ∧ Below w4.heap.size w4 V) (by kernel_rfl) (⟨H4.out.drew, (Below.refl _ _).drew⟩) (fun hS => ?_)
        simp only [List.size_toArray, List.length_cons, List.length_nil, Nat.reduceAdd, Array.replicate_succ, Array.replicate_zero, List.push_toArray, List.nil_append, List.cons_append]
        refine wpAnyH_take (i := 0) (v := ?_) rfl (by kernel_rfl) (by kernel_rfl) (by kernel_rfl) (fun _ _ _ h => h) (Or.inl ⟨by rfl, fun V hV => ?_⟩) (by assumption) ?_
        rotate_left
        · have e0 := (StoAt.of hV.1.cell1).c0; have e1 := (StoAt.of hV.1.cell1).c1; have e2 := (StoAt.of hV.1.cell1).c2; have e3 := (StoAt.of hV.1.cell1).c3; have e4 := (StoAt.of hV.1.cell1).c4; have e5 := (StoAt.of hV.1.cell1).c5; have e6 := (StoAt.of hV.1.cell1).c6; have e7 := (StoAt.of hV.1.cell1).c7; have e8 := (StoAt.of hV.1.cell1).c8; have e9 := (StoAt.of hV.1.cell1).c9; have e10 := (StoAt.of hV.1.cell1).c10; have e11 := (StoAt.of hV.1.cell1).c11; go_simp
          try with_reducible rfl
        try simp only [Act.put, List.getElem_toArray, List.getElem_cons_zero, List.setIfInBounds_toArray, List.set_cons_zero, List.set_cons_succ]
        refine wpAnyH_take (i := 2) (v := ?_) rfl (by kernel_rfl) (by kernel_rfl) (by kernel_rfl) (fun _ _ _ h => h) (Or.inl ⟨by rfl, fun V hV => ?_⟩) (by assumption) ?_
        rotate_left
        · have d0 := (TruAt.of hV.1.cell2).c0; have d1 := (TruAt.of hV.1.cell2).c1; have d2 := (TruAt.of hV.1.cell2).c2; have d3 := (TruAt.of hV.1.cell2).c3; go_simp
          try with_reducible rfl
        try simp only [Act.put, List.getElem_toArray, List.getElem_cons_zero, List.getElem_cons_succ, List.setIfInBounds_toArray, List.set_cons_zero, List.set_cons_succ]
        refine wpAnyH_ready (rs := [1]) (by kernel_rfl) (by simp) ?_
        refine AllReadyH.cons (o := _) rfl (fun K hK => ?_) AllReadyH.nil
        go_simp
        refine (storm20_any s p n c _ (HC.out.below hS.1.below) HN9.out).mono ?_
        rintro e s1 ⟨q9, m9, d9, rfl, hc9, hb⟩
        have HQ9 := hid hc9
        clear hc9
        refine hK.out _ _ (⟨hS.1.step (hb.mono (by have := hS.1.size; omega)), hS.2.trans (hb.mono hS.2.size)⟩) (fun hS => ?_)
        clear hK K
        try simp only [List.setIfInBounds_toArray, List.set_cons_zero, List.set_cons_succ]
        refine wpAnyH_ready (rs := [3]) (by kernel_rfl) (by simp) ?_
        refine AllReadyH.cons (o := _) rfl (fun K hK => ?_) AllReadyH.nil
        go_simp
        (with_reducible refine (truth53_any t _).mono ?_)
        rintro e s3 ⟨rfl, hb⟩
        have HQ9 := hid (HQ9.out.below hb)
        refine hK.out _ _ (⟨hS.1.step (hb.mono (by have := hS.1.size; omega)), hS.2.trans (hb.mono hS.2.size)⟩) (fun hS => ?_)
        clear hK K
        try simp only [List.setIfInBounds_toArray, List.set_cons_zero, List.set_cons_succ]
        refine wpAnyH_ready (rs := [4]) (by kernel_rfl) (by simp) ?_
        refine AllReadyH.cons (o := _) rfl (fun K hK => ?_) AllReadyH.nil
        go_simp
        refine (prove_any s q9 m9 d9 t _ HQ9.out).mono ?_
        rintro e w5 ⟨rfl, hb⟩
        rw [HPR.out]
        refine hK.out _ _ (⟨hS.1.step (hb.mono (by have := hS.1.size; omega)), hS.2.trans (hb.mono hS.2.size)⟩) (fun hS => ?_)
        clear hK K
        try simp only [List.setIfInBounds_toArray, List.set_cons_zero, List.set_cons_succ]
        refine wpAnyH_take (i := 5) (v := ?_) rfl (by kernel_rfl) (by kernel_rfl) (by kernel_rfl) (fun _ _ _ h => h) (Or.inl ⟨by rfl, fun V hV => ?_⟩) (by assumption) ?_
        rotate_left
        · go_simp
          try with_reducible rfl
        try simp only [Act.put, List.getElem_toArray, List.getElem_cons_zero, List.getElem_cons_succ, List.setIfInBounds_toArray, List.set_cons_zero, List.set_cons_succ]
        refine wpAnyH_done (by kernel_rfl) ?_ _
        have H5 := hid hS.1
        replace HQ := hid (HQ.out.below hS.2)
        replace HX := hid (HX.out.below hS.2)
        clear hS
        go_upto_region 5 with fail
        refine wp_region_held_drew (S := fun V => Boxed2 w #[.int .i64 s.wide, .int .i64 s.high, .int .i64 s.fall, .int .i64 s.a.lo, .int .i64 s.a.hi, .int .i64 s.b.lo, .int .i64 s.b.hi, .int .i64 s.half.lo, .int .i64 s.half.hi, .int .i64 s.peak.lo, .int .i64 s.peak.hi, .slice p n c] 26 #[.int .i64 t.a, .int .i64 t.b, .int .i64 t.half, .int .i64 t.peak] 92 V ∧ Below w5.heap.size w5 V) (by kernel_rfl) (⟨H5.out.drew, (Below.refl _ _).drew⟩) (fun hS => ?_)
        simp only [List.size_toArray, List.length_cons, List.length_nil, Nat.reduceAdd, Array.replicate_succ, Array.replicate_zero, List.push_toArray, List.nil_append, List.cons_append]
        refine wpAnyH_take (i := 0) (v := ?_) rfl (by kernel_rfl) (by kernel_rfl) (by kernel_rfl) (fun _ _ _ h => h) (Or.inl ⟨by rfl, fun V hV => ?_⟩) (by assumption) ?_
        rotate_left
        · have e0 := (StoAt.of hV.1.cell1).c0; have e1 := (StoAt.of hV.1.cell1).c1; have e2 := (StoAt.of hV.1.cell1).c2; have e3 := (StoAt.of hV.1.cell1).c3; have e4 := (StoAt.of hV.1.cell1).c4; have e5 := (StoAt.of hV.1.cell1).c5; have e6 := (StoAt.of hV.1.cell1).c6; have e7 := (StoAt.of hV.1.cell1).c7; have e8 := (StoAt.of hV.1.cell1).c8; have e9 := (StoAt.of hV.1.cell1).c9; have e10 := (StoAt.of hV.1.cell1).c10; have e11 := (StoAt.of hV.1.cell1).c11; go_simp
          try with_reducible rfl
        try simp only [Act.put, List.getElem_toArray, List.getElem_cons_zero, List.setIfInBounds_toArray, List.set_cons_zero, List.set_cons_succ]
        refine wpAnyH_take (i := 3) (v := ?_) rfl (by kernel_rfl) (by kernel_rfl) (by kernel_rfl) (fun _ _ _ h => h) (Or.inl ⟨by rfl, fun V hV => ?_⟩) (by assumption) ?_
        rotate_left
        · have e0 := (StoAt.of hV.1.cell1).c0; have e1 := (StoAt.of hV.1.cell1).c1; have e2 := (StoAt.of hV.1.cell1).c2; have e3 := (StoAt.of hV.1.cell1).c3; have e4 := (StoAt.of hV.1.cell1).c4; have e5 := (StoAt.of hV.1.cell1).c5; have e6 := (StoAt.of hV.1.cell1).c6; have e7 := (StoAt.of hV.1.cell1).c7; have e8 := (StoAt.of hV.1.cell1).c8; have e9 := (StoAt.of hV.1.cell1).c9; have e10 := (StoAt.of hV.1.cell1).c10; have e11 := (StoAt.of hV.1.cell1).c11; go_simp
          try with_reducible rfl
        try simp only [Act.put, List.getElem_toArray, List.getElem_cons_zero, List.getElem_cons_succ, List.setIfInBounds_toArray, List.set_cons_zero, List.set_cons_succ]
        refine wpAnyH_ready (rs := [1]) (by kernel_rfl) (by simp) ?_
        refine AllReadyH.cons (o := _) rfl (fun K hK => ?_) AllReadyH.nil
        go_simp
        refine (storm20_any s p n c _ (HC.out.below hS.1.below) HN9.out).mono ?_
        rintro e s1 ⟨q8, m8, d8, rfl, hc8, hb⟩
        have HQ8 := hid hc8
        clear hc8
        refine hK.out _ _ (⟨hS.1.step (hb.mono (by have := hS.1.size; omega)), hS.2.trans (hb.mono hS.2.size)⟩) (fun hS => ?_)
        clear hK K
        try simp only [List.setIfInBounds_toArray, List.set_cons_zero, List.set_cons_succ]
        refine wpAnyH_ready (rs := [2]) (by kernel_rfl) (by simp) ?_
        refine AllReadyH.cons (o := _) rfl (fun K hK => ?_) AllReadyH.nil
        go_simp
        refine (checkStorm_any s q8 m8 d8 _ HQ8.out).mono ?_
        rintro e s2 ⟨rfl, hb⟩
        rw [HF.out]
        refine hK.out _ _ (⟨hS.1.step (hb.mono (by have := hS.1.size; omega)), hS.2.trans (hb.mono hS.2.size)⟩) (fun hS => ?_)
        clear hK K
        try simp only [List.setIfInBounds_toArray, List.set_cons_zero, List.set_cons_succ]
        refine wpAnyH_ready (rs := [4]) (by kernel_rfl) (by simp) ?_
        refine AllReadyH.cons (o := _) rfl (fun K hK => ?_) AllReadyH.nil
        go_simp
        (with_reducible refine (HFL.out _ hS.1.below).mono ?_)
        rintro e s4 ⟨rfl, hb⟩
        rw [HF.out]
        refine hK.out _ _ (⟨hS.1.step (hb.mono (by have := hS.1.size; omega)), hS.2.trans (hb.mono hS.2.size)⟩) (fun hS => ?_)
        clear hK K
        try simp only [List.setIfInBounds_toArray, List.set_cons_zero, List.set_cons_succ]
        refine wpAnyH_take (i := 5) (v := ?_) rfl (by kernel_rfl) (by kernel_rfl) (by kernel_rfl) (fun _ _ _ h => h) (Or.inl ⟨by rfl, fun V hV => ?_⟩) (by assumption) ?_
        rotate_left
        · go_simp
          try with_reducible rfl
        try simp only [Act.put, List.getElem_toArray, List.getElem_cons_zero, List.getElem_cons_succ, List.setIfInBounds_toArray, List.set_cons_zero, List.set_cons_succ]
        refine wpAnyH_take (i := 6) (v := ?_) rfl (by kernel_rfl) (by kernel_rfl) (by kernel_rfl) (fun _ _ _ h => h) (Or.inl ⟨by rfl, fun V hV => ?_⟩) (by assumption) ?_
        rotate_left
        · go_simp
          try with_reducible rfl
        try simp only [Act.put, List.getElem_toArray, List.getElem_cons_zero, List.getElem_cons_succ, List.setIfInBounds_toArray, List.set_cons_zero, List.set_cons_succ]
        refine wpAnyH_take (i := 7) (v := ?_) rfl (by kernel_rfl) (by kernel_rfl) (by kernel_rfl) (fun _ _ _ h => h) (Or.inl ⟨by rfl, fun V hV => ?_⟩) (by assumption) ?_
        rotate_left
        · go_simp
          try with_reducible rfl
        try simp only [Act.put, List.getElem_toArray, List.getElem_cons_zero, List.getElem_cons_succ, List.setIfInBounds_toArray, List.set_cons_zero, List.set_cons_succ]
        refine wpAnyH_take (i := 8) (v := ?_) rfl (by kernel_rfl) (by kernel_rfl) (by kernel_rfl) (fun _ _ _ h => h) (Or.inl ⟨by rfl, fun V hV => ?_⟩) (by assumption) ?_
        rotate_left
        · have e0 := (StoAt.of hV.1.cell1).c0; have e1 := (StoAt.of hV.1.cell1).c1; have e2 := (StoAt.of hV.1.cell1).c2; have e3 := (StoAt.of hV.1.cell1).c3; have e4 := (StoAt.of hV.1.cell1).c4; have e5 := (StoAt.of hV.1.cell1).c5; have e6 := (StoAt.of hV.1.cell1).c6; have e7 := (StoAt.of hV.1.cell1).c7; have e8 := (StoAt.of hV.1.cell1).c8; have e9 := (StoAt.of hV.1.cell1).c9; have e10 := (StoAt.of hV.1.cell1).c10; have e11 := (StoAt.of hV.1.cell1).c11; go_simp
          try with_reducible rfl
        try simp only [Act.put, List.getElem_toArray, List.getElem_cons_zero, List.getElem_cons_succ, List.setIfInBounds_toArray, List.set_cons_zero, List.set_cons_succ]
        refine wpAnyH_ready (rs := [9]) (by kernel_rfl) (by simp) ?_
        refine AllReadyH.cons (o := _) rfl (fun K hK => ?_) AllReadyH.nil
        go_simp
        (with_reducible refine (HFT.out _ hS.1.below).mono ?_)
        rintro e s9 ⟨rfl, hb⟩
        rw [HF.out]
        refine hK.out _ _ (⟨hS.1.step (hb.mono (by have := hS.1.size; omega)), hS.2.trans (hb.mono hS.2.size)⟩) (fun hS => ?_)
        clear hK K
        try simp only [List.setIfInBounds_toArray, List.set_cons_zero, List.set_cons_succ]
        refine wpAnyH_take (i := 10) (v := ?_) rfl (by kernel_rfl) (by kernel_rfl) (by kernel_rfl) (fun _ _ _ h => h) (Or.inl ⟨by rfl, fun V hV => ?_⟩) (by assumption) ?_
        rotate_left
        · go_simp
          try with_reducible rfl
        try simp only [Act.put, List.getElem_toArray, List.getElem_cons_zero, List.getElem_cons_succ, List.setIfInBounds_toArray, List.set_cons_zero, List.set_cons_succ]
        refine wpAnyH_take (i := 11) (v := ?_) rfl (by kernel_rfl) (by kernel_rfl) (by kernel_rfl) (fun _ _ _ h => h) (Or.inl ⟨by rfl, fun V hV => ?_⟩) (by assumption) ?_
        rotate_left
        · go_simp
          try with_reducible rfl
        try simp only [Act.put, List.getElem_toArray, List.getElem_cons_zero, List.getElem_cons_succ, List.setIfInBounds_toArray, List.set_cons_zero, List.set_cons_succ]
        refine wpAnyH_take (i := 12) (v := ?_) rfl (by kernel_rfl) (by kernel_rfl) (by kernel_rfl) (fun _ _ _ h => h) (Or.inl ⟨by rfl, fun V hV => ?_⟩) (by assumption) ?_
        rotate_left
        · have e0 := (StoAt.of hV.1.cell1).c0; have e1 := (StoAt.of hV.1.cell1).c1; have e2 := (StoAt.of hV.1.cell1).c2; have e3 := (StoAt.of hV.1.cell1).c3; have e4 := (StoAt.of hV.1.cell1).c4; have e5 := (StoAt.of hV.1.cell1).c5; have e6 := (StoAt.of hV.1.cell1).c6; have e7 := (StoAt.of hV.1.cell1).c7; have e8 := (StoAt.of hV.1.cell1).c8; have e9 := (StoAt.of hV.1.cell1).c9; have e10 := (StoAt.of hV.1.cell1).c10; have e11 := (StoAt.of hV.1.cell1).c11; go_simp
          try with_reducible rfl
        try simp only [Act.put, List.getElem_toArray, List.getElem_cons_zero, List.getElem_cons_succ, List.setIfInBounds_toArray, List.set_cons_zero, List.set_cons_succ]
        refine wpAnyH_take (i := 13) (v := ?_) rfl (by kernel_rfl) (by kernel_rfl) (by kernel_rfl) (fun _ _ _ h => h) (Or.inl ⟨by rfl, fun V hV => ?_⟩) (by assumption) ?_
        rotate_left
        · have d0 := (TruAt.of hV.1.cell2).c0; have d1 := (TruAt.of hV.1.cell2).c1; have d2 := (TruAt.of hV.1.cell2).c2; have d3 := (TruAt.of hV.1.cell2).c3; go_simp
          try with_reducible rfl
        try simp only [Act.put, List.getElem_toArray, List.getElem_cons_zero, List.getElem_cons_succ, List.setIfInBounds_toArray, List.set_cons_zero, List.set_cons_succ]
        refine wpAnyH_ready (rs := [14]) (by kernel_rfl) (by simp) ?_
        refine AllReadyH.cons (o := _) rfl (fun K hK => ?_) AllReadyH.nil
        go_simp
        (with_reducible refine (isTruth_any s p n c t _ (HC.out.below hS.1.below) HOK.out).mono ?_)
        rintro e s14 ⟨rfl, hb⟩
        rw [HIT.out]
        refine hK.out _ _ (⟨hS.1.step (hb.mono (by have := hS.1.size; omega)), hS.2.trans (hb.mono hS.2.size)⟩) (fun hS => ?_)
        clear hK K
        try simp only [List.setIfInBounds_toArray, List.set_cons_zero, List.set_cons_succ]
        refine wpAnyH_take (i := 15) (v := ?_) rfl (by kernel_rfl) (by kernel_rfl) (by kernel_rfl) (fun _ _ _ h => h) (Or.inl ⟨by rfl, fun V hV => ?_⟩) (by assumption) ?_
        rotate_left
        · go_simp
          try with_reducible rfl
        try simp only [Act.put, List.getElem_toArray, List.getElem_cons_zero, List.getElem_cons_succ, List.setIfInBounds_toArray, List.set_cons_zero, List.set_cons_succ]
        refine wpAnyH_take (i := 16) (v := ?_) rfl (by kernel_rfl) (by kernel_rfl) (by kernel_rfl) (fun _ _ _ h => h) (Or.inl ⟨by rfl, fun V hV => ?_⟩) (by assumption) ?_
        rotate_left
        · go_simp
          try with_reducible rfl
        try simp only [Act.put, List.getElem_toArray, List.getElem_cons_zero, List.getElem_cons_succ, List.setIfInBounds_toArray, List.set_cons_zero, List.set_cons_succ]
        refine wpAnyH_take (i := 17) (v := ?_) rfl (by kernel_rfl) (by kernel_rfl) (by kernel_rfl) (fun _ _ _ h => h) (Or.inl ⟨by rfl, fun V hV => ?_⟩) (by assumption) ?_
        rotate_left
        · go_simp
          try with_reducible rfl
        try simp only [Act.put, List.getElem_toArray, List.getElem_cons_zero, List.getElem_cons_succ, List.setIfInBounds_toArray, List.set_cons_zero, List.set_cons_succ]
        refine wpAnyH_done (by kernel_rfl) ?_ _
        have H6 := hid hS.1
        replace HQ := hid (HQ.out.below hS.2)
        replace HX := hid (HX.out.below hS.2)
        clear hS
        generalize s14 = w6 at H6 HQ HX ⊢
        have e0 := (StoAt.of H6.out.cell1).c0; have e1 := (StoAt.of H6.out.cell1).c1; have e2 := (StoAt.of H6.out.cell1).c2; have e3 := (StoAt.of H6.out.cell1).c3; have e4 := (StoAt.of H6.out.cell1).c4; have e5 := (StoAt.of H6.out.cell1).c5; have e6 := (StoAt.of H6.out.cell1).c6; have e7 := (StoAt.of H6.out.cell1).c7; have e8 := (StoAt.of H6.out.cell1).c8; have e9 := (StoAt.of H6.out.cell1).c9; have e10 := (StoAt.of H6.out.cell1).c10; have e11 := (StoAt.of H6.out.cell1).c11
        go_wp2_with fail
        refine (sure_any s p n c _ (HC.out.below H6.out.below)).mono ?_
        rintro e w7 ⟨v, rfl, hown, hb⟩
        have H7 := hid (H6.out.step (hb.mono (by have := H6.out.size; omega)))
        replace HQ := hid (HQ.out.below hb)
        replace HX := hid (HX.out.below hb)
        obtain ⟨ql, dl, rfl, hrl⟩ := hown.slice cellsT_len
        have HRL := hid hrl
        rw [HE.out]
        clear e0 e1 e2 e3 e4 e5 e6 e7 e8 e9 e10 e11 hb hown hrl
        have g0 := (HX.out.2 0 (.int .i64 0) rfl).1; have g1 := (HX.out.2 1 (.int .i64 0) rfl).1; have g2 := (HX.out.2 2 (.int .i64 0) rfl).1; have g3 := (HX.out.2 3 (.int .i64 0) rfl).1; have g4 := (HX.out.2 4 (.int .i64 0) rfl).1; have g5 := (HX.out.2 5 (.int .i64 0) rfl).1; have g6 := (HX.out.2 6 (.int .i64 0) rfl).1; have g7 := (HX.out.2 7 (.int .i64 0) rfl).1; have g8 := (HX.out.2 8 (.int .i64 0) rfl).1; have g9 := (HX.out.2 9 (.int .i64 0) rfl).1; have g10 := (HX.out.2 10 (.int .i64 0) rfl).1; have g11 := (HX.out.2 11 (.slice q m d) rfl).1
        go_wp2_with fail
        refine (empty57_any q m d _ HQ.out).mono ?_
        rintro e w8 ⟨rfl, hb⟩
        have H8 := hid (H7.out.step (hb.mono (by have := H7.out.size; omega)))
        replace HQ := hid (HQ.out.below hb)
        replace HX := hid (HX.out.below hb)
        replace HRL := hid (HRL.out.below hb)
        clear hb
        clear g0 g1 g2 g3 g4 g5 g6 g7 g8 g9 g10 g11
        go_wp2_with fail
        refine (awake_any _).mono ?_
        rintro e w99 ⟨rfl, hb⟩
        go_wp2_with fail
        go_ret
        exact ⟨rfl, H8.out.below.trans (hb.mono H8.out.below.size)⟩
      · have HE : Hid (sureE s true = 0) := by show _ = _; rw [sureE, if_pos hF, if_pos rfl, if_neg hL]
        have HSR : Hid (sureR s = truR s) := by show _ = _; rw [sureR, if_pos HE.out]
        have HWA : Hid (wideT (fun t => t.a) emptyR (truR s) = (bndS s).a) := hid (wide_law HOK.out hL fun t ht => (tru_bd HOK.out ht).1)
        have HWB : Hid (wideT (fun t => t.b) emptyR (truR s) = (bndS s).b) := hid (wide_law HOK.out hL fun t ht => (tru_bd HOK.out ht).2.1)
        have HWH : Hid (wideT (fun t => t.half) emptyR (truR s) = (bndS s).half) := hid (wide_law HOK.out hL fun t ht => (tru_bd HOK.out ht).2.2.1)
        have HWP : Hid (wideT (fun t => t.peak) emptyR (truR s) = (bndS s).peak) := hid (wide_law HOK.out hL fun t ht => (tru_bd HOK.out ht).2.2.2)
        clear hF hL
        have e0 := (StoAt.of H1.out.cell1).c0; have e1 := (StoAt.of H1.out.cell1).c1; have e2 := (StoAt.of H1.out.cell1).c2; have e3 := (StoAt.of H1.out.cell1).c3; have e4 := (StoAt.of H1.out.cell1).c4; have e5 := (StoAt.of H1.out.cell1).c5; have e6 := (StoAt.of H1.out.cell1).c6; have e7 := (StoAt.of H1.out.cell1).c7; have e8 := (StoAt.of H1.out.cell1).c8; have e9 := (StoAt.of H1.out.cell1).c9; have e10 := (StoAt.of H1.out.cell1).c10; have e11 := (StoAt.of H1.out.cell1).c11
        go_wp2_with fail
        refine (storm20_any s p n c w1 (HC.out.below H1.out.below) HN9.out).mono ?_
        rintro e w2 ⟨q1, m1, d1, rfl, hc, hb⟩
        have H2 := hid (H1.out.step (hb.mono (by have := H1.out.size; omega)))
        have HK1 := hid hc
        clear e0 e1 e2 e3 e4 e5 e6 e7 e8 e9 e10 e11 hb hc
        go_wp2_with fail
        refine (bounds_good s q1 m1 d1 _ HK1.out HE.out).mono ?_
        rintro e w3 ⟨q, m, d, rfl, hc, hb⟩
        have H3 := hid (H2.out.step (hb.mono (by have := H2.out.size; omega)))
        replace HK1 := hid (HK1.out.below hb)
        have HQ := hid hc
        clear hb hc
        have HQ0 : Hid (Lat w3 w3) := hid (Below.refl _ _)
        obtain ⟨w4, hw4⟩ : ∃ V, (w3.alloc (.cells #[.int .i64 (bndS s).wide, .int .i64 (bndS s).high, .int .i64 (bndS s).fall, .int .i64 (bndS s).a.lo, .int .i64 (bndS s).a.hi, .int .i64 (bndS s).b.lo, .int .i64 (bndS s).b.hi, .int .i64 (bndS s).half.lo, .int .i64 (bndS s).half.hi, .int .i64 (bndS s).peak.lo, .int .i64 (bndS s).peak.hi, .slice q m d] 35)) = V := ⟨_, rfl⟩
        have H4 : Hid (Boxed2 w #[.int .i64 s.wide, .int .i64 s.high, .int .i64 s.fall, .int .i64 s.a.lo, .int .i64 s.a.hi, .int .i64 s.b.lo, .int .i64 s.b.hi, .int .i64 s.half.lo, .int .i64 s.half.hi, .int .i64 s.peak.lo, .int .i64 s.peak.hi, .slice p n c] 26 #[.int .i64 t.a, .int .i64 t.b, .int .i64 t.half, .int .i64 t.peak] 92 w4) := by show Boxed2 w #[.int .i64 s.wide, .int .i64 s.high, .int .i64 s.fall, .int .i64 s.a.lo, .int .i64 s.a.hi, .int .i64 s.b.lo, .int .i64 s.b.hi, .int .i64 s.half.lo, .int .i64 s.half.hi, .int .i64 s.peak.lo, .int .i64 s.peak.hi, .slice p n c] 26 #[.int .i64 t.a, .int .i64 t.b, .int .i64 t.half, .int .i64 t.peak] 92 w4; rw [← hw4]; exact H3.out.alloc _
        have HX : Hid (BoxIs w3.heap.size #[.int .i64 (bndS s).wide, .int .i64 (bndS s).high, .int .i64 (bndS s).fall, .int .i64 (bndS s).a.lo, .int .i64 (bndS s).a.hi, .int .i64 (bndS s).b.lo, .int .i64 (bndS s).b.hi, .int .i64 (bndS s).half.lo, .int .i64 (bndS s).half.hi, .int .i64 (bndS s).peak.lo, .int .i64 (bndS s).peak.hi, .slice q m d] w4) := by show BoxIs _ _ _; rw [← hw4]; exact BoxIs.start _ _ _
        have HBB : Hid (Below w3.heap.size w3 w4) := hid (by rw [← hw4]; exact (Below.refl _ _).alloc (Nat.le_refl _) _)
        replace HQ0 := hid (HQ0.out.below HBB.out)
        go_upto_region 4 with fail
        clear hw4 HBB 
        refine wp_region_held_drew (S := fun V => Boxed2 w #[.int .i64 s.wide, .int .i64 s.high, .int .i64 s.fall, .int .i64 s.a.lo, .int .i64 s.a.hi, .int .i64 s.b.lo, .int .i64 s.b.hi, .int .i64 s.half.lo, .int .i64 s.half.hi, .int .i64 s.peak.lo, .int .i64 s.peak.hi, .slice p n c] 26 #[.int .i64 t.a, .int .i64 t.b, .int .i64 t.half, .int .i64 t.peak] 92 V ∧ Below w4.heap.size w4 V) (by kernel_rfl) (⟨H4.out.drew, (Below.refl _ _).drew⟩) (fun hS => ?_)
        simp only [List.size_toArray, List.length_cons, List.length_nil, Nat.reduceAdd, Array.replicate_succ, Array.replicate_zero, List.push_toArray, List.nil_append, List.cons_append]
        refine wpAnyH_take (i := 0) (v := ?_) rfl (by kernel_rfl) (by kernel_rfl) (by kernel_rfl) (fun _ _ _ h => h) (Or.inl ⟨by rfl, fun V hV => ?_⟩) (by assumption) ?_
        rotate_left
        · have e0 := (StoAt.of hV.1.cell1).c0; have e1 := (StoAt.of hV.1.cell1).c1; have e2 := (StoAt.of hV.1.cell1).c2; have e3 := (StoAt.of hV.1.cell1).c3; have e4 := (StoAt.of hV.1.cell1).c4; have e5 := (StoAt.of hV.1.cell1).c5; have e6 := (StoAt.of hV.1.cell1).c6; have e7 := (StoAt.of hV.1.cell1).c7; have e8 := (StoAt.of hV.1.cell1).c8; have e9 := (StoAt.of hV.1.cell1).c9; have e10 := (StoAt.of hV.1.cell1).c10; have e11 := (StoAt.of hV.1.cell1).c11; go_simp
          try with_reducible rfl
        try simp only [Act.put, List.getElem_toArray, List.getElem_cons_zero, List.setIfInBounds_toArray, List.set_cons_zero, List.set_cons_succ]
        refine wpAnyH_take (i := 2) (v := ?_) rfl (by kernel_rfl) (by kernel_rfl) (by kernel_rfl) (fun _ _ _ h => h) (Or.inl ⟨by rfl, fun V hV => ?_⟩) (by assumption) ?_
        rotate_left
        · have d0 := (TruAt.of hV.1.cell2).c0; have d1 := (TruAt.of hV.1.cell2).c1; have d2 := (TruAt.of hV.1.cell2).c2; have d3 := (TruAt.of hV.1.cell2).c3; go_simp
          try with_reducible rfl
        try simp only [Act.put, List.getElem_toArray, List.getElem_cons_zero, List.getElem_cons_succ, List.setIfInBounds_toArray, List.set_cons_zero, List.set_cons_succ]
        refine wpAnyH_ready (rs := [1]) (by kernel_rfl) (by simp) ?_
        refine AllReadyH.cons (o := _) rfl (fun K hK => ?_) AllReadyH.nil
        go_simp
        refine (storm20_any s p n c _ (HC.out.below hS.1.below) HN9.out).mono ?_
        rintro e s1 ⟨q9, m9, d9, rfl, hc9, hb⟩
        have HQ9 := hid hc9
        clear hc9
        refine hK.out _ _ (⟨hS.1.step (hb.mono (by have := hS.1.size; omega)), hS.2.trans (hb.mono hS.2.size)⟩) (fun hS => ?_)
        clear hK K
        try simp only [List.setIfInBounds_toArray, List.set_cons_zero, List.set_cons_succ]
        refine wpAnyH_ready (rs := [3]) (by kernel_rfl) (by simp) ?_
        refine AllReadyH.cons (o := _) rfl (fun K hK => ?_) AllReadyH.nil
        go_simp
        (with_reducible refine (truth53_any t _).mono ?_)
        rintro e s3 ⟨rfl, hb⟩
        have HQ9 := hid (HQ9.out.below hb)
        refine hK.out _ _ (⟨hS.1.step (hb.mono (by have := hS.1.size; omega)), hS.2.trans (hb.mono hS.2.size)⟩) (fun hS => ?_)
        clear hK K
        try simp only [List.setIfInBounds_toArray, List.set_cons_zero, List.set_cons_succ]
        refine wpAnyH_ready (rs := [4]) (by kernel_rfl) (by simp) ?_
        refine AllReadyH.cons (o := _) rfl (fun K hK => ?_) AllReadyH.nil
        go_simp
        refine (prove_any s q9 m9 d9 t _ HQ9.out).mono ?_
        rintro e w5 ⟨rfl, hb⟩
        rw [HPR.out]
        refine hK.out _ _ (⟨hS.1.step (hb.mono (by have := hS.1.size; omega)), hS.2.trans (hb.mono hS.2.size)⟩) (fun hS => ?_)
        clear hK K
        try simp only [List.setIfInBounds_toArray, List.set_cons_zero, List.set_cons_succ]
        refine wpAnyH_take (i := 5) (v := ?_) rfl (by kernel_rfl) (by kernel_rfl) (by kernel_rfl) (fun _ _ _ h => h) (Or.inl ⟨by rfl, fun V hV => ?_⟩) (by assumption) ?_
        rotate_left
        · go_simp
          try with_reducible rfl
        try simp only [Act.put, List.getElem_toArray, List.getElem_cons_zero, List.getElem_cons_succ, List.setIfInBounds_toArray, List.set_cons_zero, List.set_cons_succ]
        refine wpAnyH_done (by kernel_rfl) ?_ _
        have H5 := hid hS.1
        replace HQ0 := hid (HQ0.out.below hS.2)
        replace HX := hid (HX.out.below hS.2)
        clear hS
        go_upto_region 5 with fail
        refine wp_region_held_drew (S := fun V => Boxed2 w #[.int .i64 s.wide, .int .i64 s.high, .int .i64 s.fall, .int .i64 s.a.lo, .int .i64 s.a.hi, .int .i64 s.b.lo, .int .i64 s.b.hi, .int .i64 s.half.lo, .int .i64 s.half.hi, .int .i64 s.peak.lo, .int .i64 s.peak.hi, .slice p n c] 26 #[.int .i64 t.a, .int .i64 t.b, .int .i64 t.half, .int .i64 t.peak] 92 V ∧ Below w5.heap.size w5 V) (by kernel_rfl) (⟨H5.out.drew, (Below.refl _ _).drew⟩) (fun hS => ?_)
        simp only [List.size_toArray, List.length_cons, List.length_nil, Nat.reduceAdd, Array.replicate_succ, Array.replicate_zero, List.push_toArray, List.nil_append, List.cons_append]
        refine wpAnyH_take (i := 0) (v := ?_) rfl (by kernel_rfl) (by kernel_rfl) (by kernel_rfl) (fun _ _ _ h => h) (Or.inl ⟨by rfl, fun V hV => ?_⟩) (by assumption) ?_
        rotate_left
        · have e0 := (StoAt.of hV.1.cell1).c0; have e1 := (StoAt.of hV.1.cell1).c1; have e2 := (StoAt.of hV.1.cell1).c2; have e3 := (StoAt.of hV.1.cell1).c3; have e4 := (StoAt.of hV.1.cell1).c4; have e5 := (StoAt.of hV.1.cell1).c5; have e6 := (StoAt.of hV.1.cell1).c6; have e7 := (StoAt.of hV.1.cell1).c7; have e8 := (StoAt.of hV.1.cell1).c8; have e9 := (StoAt.of hV.1.cell1).c9; have e10 := (StoAt.of hV.1.cell1).c10; have e11 := (StoAt.of hV.1.cell1).c11; go_simp
          try with_reducible rfl
        try simp only [Act.put, List.getElem_toArray, List.getElem_cons_zero, List.setIfInBounds_toArray, List.set_cons_zero, List.set_cons_succ]
        refine wpAnyH_take (i := 3) (v := ?_) rfl (by kernel_rfl) (by kernel_rfl) (by kernel_rfl) (fun _ _ _ h => h) (Or.inl ⟨by rfl, fun V hV => ?_⟩) (by assumption) ?_
        rotate_left
        · have e0 := (StoAt.of hV.1.cell1).c0; have e1 := (StoAt.of hV.1.cell1).c1; have e2 := (StoAt.of hV.1.cell1).c2; have e3 := (StoAt.of hV.1.cell1).c3; have e4 := (StoAt.of hV.1.cell1).c4; have e5 := (StoAt.of hV.1.cell1).c5; have e6 := (StoAt.of hV.1.cell1).c6; have e7 := (StoAt.of hV.1.cell1).c7; have e8 := (StoAt.of hV.1.cell1).c8; have e9 := (StoAt.of hV.1.cell1).c9; have e10 := (StoAt.of hV.1.cell1).c10; have e11 := (StoAt.of hV.1.cell1).c11; go_simp
          try with_reducible rfl
        try simp only [Act.put, List.getElem_toArray, List.getElem_cons_zero, List.getElem_cons_succ, List.setIfInBounds_toArray, List.set_cons_zero, List.set_cons_succ]
        refine wpAnyH_ready (rs := [1]) (by kernel_rfl) (by simp) ?_
        refine AllReadyH.cons (o := _) rfl (fun K hK => ?_) AllReadyH.nil
        go_simp
        refine (storm20_any s p n c _ (HC.out.below hS.1.below) HN9.out).mono ?_
        rintro e s1 ⟨q8, m8, d8, rfl, hc8, hb⟩
        have HQ8 := hid hc8
        clear hc8
        refine hK.out _ _ (⟨hS.1.step (hb.mono (by have := hS.1.size; omega)), hS.2.trans (hb.mono hS.2.size)⟩) (fun hS => ?_)
        clear hK K
        try simp only [List.setIfInBounds_toArray, List.set_cons_zero, List.set_cons_succ]
        refine wpAnyH_ready (rs := [2]) (by kernel_rfl) (by simp) ?_
        refine AllReadyH.cons (o := _) rfl (fun K hK => ?_) AllReadyH.nil
        go_simp
        refine (checkStorm_any s q8 m8 d8 _ HQ8.out).mono ?_
        rintro e s2 ⟨rfl, hb⟩
        rw [HF.out]
        refine hK.out _ _ (⟨hS.1.step (hb.mono (by have := hS.1.size; omega)), hS.2.trans (hb.mono hS.2.size)⟩) (fun hS => ?_)
        clear hK K
        try simp only [List.setIfInBounds_toArray, List.set_cons_zero, List.set_cons_succ]
        refine wpAnyH_ready (rs := [4]) (by kernel_rfl) (by simp) ?_
        refine AllReadyH.cons (o := _) rfl (fun K hK => ?_) AllReadyH.nil
        go_simp
        (with_reducible refine (HFL.out _ hS.1.below).mono ?_)
        rintro e s4 ⟨rfl, hb⟩
        rw [HF.out]
        refine hK.out _ _ (⟨hS.1.step (hb.mono (by have := hS.1.size; omega)), hS.2.trans (hb.mono hS.2.size)⟩) (fun hS => ?_)
        clear hK K
        try simp only [List.setIfInBounds_toArray, List.set_cons_zero, List.set_cons_succ]
        refine wpAnyH_take (i := 5) (v := ?_) rfl (by kernel_rfl) (by kernel_rfl) (by kernel_rfl) (fun _ _ _ h => h) (Or.inl ⟨by rfl, fun V hV => ?_⟩) (by assumption) ?_
        rotate_left
        · go_simp
          try with_reducible rfl
        try simp only [Act.put, List.getElem_toArray, List.getElem_cons_zero, List.getElem_cons_succ, List.setIfInBounds_toArray, List.set_cons_zero, List.set_cons_succ]
        refine wpAnyH_take (i := 6) (v := ?_) rfl (by kernel_rfl) (by kernel_rfl) (by kernel_rfl) (fun _ _ _ h => h) (Or.inl ⟨by rfl, fun V hV => ?_⟩) (by assumption) ?_
        rotate_left
        · go_simp
          try with_reducible rfl
        try simp only [Act.put, List.getElem_toArray, List.getElem_cons_zero, List.getElem_cons_succ, List.setIfInBounds_toArray, List.set_cons_zero, List.set_cons_succ]
        refine wpAnyH_take (i := 7) (v := ?_) rfl (by kernel_rfl) (by kernel_rfl) (by kernel_rfl) (fun _ _ _ h => h) (Or.inl ⟨by rfl, fun V hV => ?_⟩) (by assumption) ?_
        rotate_left
        · go_simp
          try with_reducible rfl
        try simp only [Act.put, List.getElem_toArray, List.getElem_cons_zero, List.getElem_cons_succ, List.setIfInBounds_toArray, List.set_cons_zero, List.set_cons_succ]
        refine wpAnyH_take (i := 8) (v := ?_) rfl (by kernel_rfl) (by kernel_rfl) (by kernel_rfl) (fun _ _ _ h => h) (Or.inl ⟨by rfl, fun V hV => ?_⟩) (by assumption) ?_
        rotate_left
        · have e0 := (StoAt.of hV.1.cell1).c0; have e1 := (StoAt.of hV.1.cell1).c1; have e2 := (StoAt.of hV.1.cell1).c2; have e3 := (StoAt.of hV.1.cell1).c3; have e4 := (StoAt.of hV.1.cell1).c4; have e5 := (StoAt.of hV.1.cell1).c5; have e6 := (StoAt.of hV.1.cell1).c6; have e7 := (StoAt.of hV.1.cell1).c7; have e8 := (StoAt.of hV.1.cell1).c8; have e9 := (StoAt.of hV.1.cell1).c9; have e10 := (StoAt.of hV.1.cell1).c10; have e11 := (StoAt.of hV.1.cell1).c11; go_simp
          try with_reducible rfl
        try simp only [Act.put, List.getElem_toArray, List.getElem_cons_zero, List.getElem_cons_succ, List.setIfInBounds_toArray, List.set_cons_zero, List.set_cons_succ]
        refine wpAnyH_ready (rs := [9]) (by kernel_rfl) (by simp) ?_
        refine AllReadyH.cons (o := _) rfl (fun K hK => ?_) AllReadyH.nil
        go_simp
        (with_reducible refine (HFT.out _ hS.1.below).mono ?_)
        rintro e s9 ⟨rfl, hb⟩
        rw [HF.out]
        refine hK.out _ _ (⟨hS.1.step (hb.mono (by have := hS.1.size; omega)), hS.2.trans (hb.mono hS.2.size)⟩) (fun hS => ?_)
        clear hK K
        try simp only [List.setIfInBounds_toArray, List.set_cons_zero, List.set_cons_succ]
        refine wpAnyH_take (i := 10) (v := ?_) rfl (by kernel_rfl) (by kernel_rfl) (by kernel_rfl) (fun _ _ _ h => h) (Or.inl ⟨by rfl, fun V hV => ?_⟩) (by assumption) ?_
        rotate_left
        · go_simp
          try with_reducible rfl
        try simp only [Act.put, List.getElem_toArray, List.getElem_cons_zero, List.getElem_cons_succ, List.setIfInBounds_toArray, List.set_cons_zero, List.set_cons_succ]
        refine wpAnyH_take (i := 11) (v := ?_) rfl (by kernel_rfl) (by kernel_rfl) (by kernel_rfl) (fun _ _ _ h => h) (Or.inl ⟨by rfl, fun V hV => ?_⟩) (by assumption) ?_
        rotate_left
        · go_simp
          try with_reducible rfl
        try simp only [Act.put, List.getElem_toArray, List.getElem_cons_zero, List.getElem_cons_succ, List.setIfInBounds_toArray, List.set_cons_zero, List.set_cons_succ]
        refine wpAnyH_take (i := 12) (v := ?_) rfl (by kernel_rfl) (by kernel_rfl) (by kernel_rfl) (fun _ _ _ h => h) (Or.inl ⟨by rfl, fun V hV => ?_⟩) (by assumption) ?_
        rotate_left
        · have e0 := (StoAt.of hV.1.cell1).c0; have e1 := (StoAt.of hV.1.cell1).c1; have e2 := (StoAt.of hV.1.cell1).c2; have e3 := (StoAt.of hV.1.cell1).c3; have e4 := (StoAt.of hV.1.cell1).c4; have e5 := (StoAt.of hV.1.cell1).c5; have e6 := (StoAt.of hV.1.cell1).c6; have e7 := (StoAt.of hV.1.cell1).c7; have e8 := (StoAt.of hV.1.cell1).c8; have e9 := (StoAt.of hV.1.cell1).c9; have e10 := (StoAt.of hV.1.cell1).c10; have e11 := (StoAt.of hV.1.cell1).c11; go_simp
          try with_reducible rfl
        try simp only [Act.put, List.getElem_toArray, List.getElem_cons_zero, List.getElem_cons_succ, List.setIfInBounds_toArray, List.set_cons_zero, List.set_cons_succ]
        refine wpAnyH_take (i := 13) (v := ?_) rfl (by kernel_rfl) (by kernel_rfl) (by kernel_rfl) (fun _ _ _ h => h) (Or.inl ⟨by rfl, fun V hV => ?_⟩) (by assumption) ?_
        rotate_left
        · have d0 := (TruAt.of hV.1.cell2).c0; have d1 := (TruAt.of hV.1.cell2).c1; have d2 := (TruAt.of hV.1.cell2).c2; have d3 := (TruAt.of hV.1.cell2).c3; go_simp
          try with_reducible rfl
        try simp only [Act.put, List.getElem_toArray, List.getElem_cons_zero, List.getElem_cons_succ, List.setIfInBounds_toArray, List.set_cons_zero, List.set_cons_succ]
        refine wpAnyH_ready (rs := [14]) (by kernel_rfl) (by simp) ?_
        refine AllReadyH.cons (o := _) rfl (fun K hK => ?_) AllReadyH.nil
        go_simp
        (with_reducible refine (isTruth_any s p n c t _ (HC.out.below hS.1.below) HOK.out).mono ?_)
        rintro e s14 ⟨rfl, hb⟩
        rw [HIT.out]
        refine hK.out _ _ (⟨hS.1.step (hb.mono (by have := hS.1.size; omega)), hS.2.trans (hb.mono hS.2.size)⟩) (fun hS => ?_)
        clear hK K
        try simp only [List.setIfInBounds_toArray, List.set_cons_zero, List.set_cons_succ]
        refine wpAnyH_take (i := 15) (v := ?_) rfl (by kernel_rfl) (by kernel_rfl) (by kernel_rfl) (fun _ _ _ h => h) (Or.inl ⟨by rfl, fun V hV => ?_⟩) (by assumption) ?_
        rotate_left
        · go_simp
          try with_reducible rfl
        try simp only [Act.put, List.getElem_toArray, List.getElem_cons_zero, List.getElem_cons_succ, List.setIfInBounds_toArray, List.set_cons_zero, List.set_cons_succ]
        refine wpAnyH_take (i := 16) (v := ?_) rfl (by kernel_rfl) (by kernel_rfl) (by kernel_rfl) (fun _ _ _ h => h) (Or.inl ⟨by rfl, fun V hV => ?_⟩) (by assumption) ?_
        rotate_left
        · go_simp
          try with_reducible rfl
        try simp only [Act.put, List.getElem_toArray, List.getElem_cons_zero, List.getElem_cons_succ, List.setIfInBounds_toArray, List.set_cons_zero, List.set_cons_succ]
        refine wpAnyH_take (i := 17) (v := ?_) rfl (by kernel_rfl) (by kernel_rfl) (by kernel_rfl) (fun _ _ _ h => h) (Or.inl ⟨by rfl, fun V hV => ?_⟩) (by assumption) ?_
        rotate_left
        · go_simp
          try with_reducible rfl
        try simp only [Act.put, List.getElem_toArray, List.getElem_cons_zero, List.getElem_cons_succ, List.setIfInBounds_toArray, List.set_cons_zero, List.set_cons_succ]
        refine wpAnyH_done (by kernel_rfl) ?_ _
        have H6 := hid hS.1
        replace HQ0 := hid (HQ0.out.below hS.2)
        replace HX := hid (HX.out.below hS.2)
        clear hS
        generalize s14 = w6 at H6 HQ0 HX ⊢
        have e0 := (StoAt.of H6.out.cell1).c0; have e1 := (StoAt.of H6.out.cell1).c1; have e2 := (StoAt.of H6.out.cell1).c2; have e3 := (StoAt.of H6.out.cell1).c3; have e4 := (StoAt.of H6.out.cell1).c4; have e5 := (StoAt.of H6.out.cell1).c5; have e6 := (StoAt.of H6.out.cell1).c6; have e7 := (StoAt.of H6.out.cell1).c7; have e8 := (StoAt.of H6.out.cell1).c8; have e9 := (StoAt.of H6.out.cell1).c9; have e10 := (StoAt.of H6.out.cell1).c10; have e11 := (StoAt.of H6.out.cell1).c11
        go_wp2_with fail
        refine (sure_any s p n c _ (HC.out.below H6.out.below)).mono ?_
        rintro e w7 ⟨v, rfl, hown, hb⟩
        have H7 := hid (H6.out.step (hb.mono (by have := H6.out.size; omega)))
        replace HQ0 := hid (HQ0.out.below hb)
        replace HX := hid (HX.out.below hb)
        obtain ⟨ql, dl, rfl, hrl⟩ := hown.slice cellsT_len
        have HRL := hid hrl
        rw [HE.out]
        clear e0 e1 e2 e3 e4 e5 e6 e7 e8 e9 e10 e11 hb hown hrl
        rw [HSR.out] at HRL ⊢
        obtain ⟨N, hNN⟩ : ∃ N, (truR s).length = N := ⟨_, rfl⟩
        have HNL : Hid (N ≤ 100000) := hid (by have := truR_len HOK.out; omega)
        rw [hNN] at HRL ⊢
        clear hNN
        have e0 := (StoAt.of H7.out.cell1).c0; have e1 := (StoAt.of H7.out.cell1).c1; have e2 := (StoAt.of H7.out.cell1).c2; have e3 := (StoAt.of H7.out.cell1).c3; have e4 := (StoAt.of H7.out.cell1).c4; have e5 := (StoAt.of H7.out.cell1).c5; have e6 := (StoAt.of H7.out.cell1).c6; have e7 := (StoAt.of H7.out.cell1).c7; have e8 := (StoAt.of H7.out.cell1).c8; have e9 := (StoAt.of H7.out.cell1).c9; have e10 := (StoAt.of H7.out.cell1).c10; have e11 := (StoAt.of H7.out.cell1).c11
        have HNE : Hid (w3.heap.size < w7.heap.size) := hid HX.out.1
        have HLO := hid H7.out.size
        have HQL : Hid (w3.heap.size ≤ w7.heap.size) := hid (Below.size HQ0.out)
        obtain ⟨w8, hw8⟩ : ∃ V, (w7.alloc (.cells #[.int .i64 s.wide, .int .i64 s.high, .int .i64 s.fall, .int .i64 s.a.lo, .int .i64 s.a.hi, .int .i64 s.b.lo, .int .i64 s.b.hi, .int .i64 s.half.lo, .int .i64 s.half.hi, .int .i64 s.peak.lo, .int .i64 s.peak.hi, .slice p n c] 26)) = V := ⟨_, rfl⟩
        have H8 : Hid (Boxed2 w #[.int .i64 s.wide, .int .i64 s.high, .int .i64 s.fall, .int .i64 s.a.lo, .int .i64 s.a.hi, .int .i64 s.b.lo, .int .i64 s.b.hi, .int .i64 s.half.lo, .int .i64 s.half.hi, .int .i64 s.peak.lo, .int .i64 s.peak.hi, .slice p n c] 26 #[.int .i64 t.a, .int .i64 t.b, .int .i64 t.half, .int .i64 t.peak] 92 w8) := by show Boxed2 w #[.int .i64 s.wide, .int .i64 s.high, .int .i64 s.fall, .int .i64 s.a.lo, .int .i64 s.a.hi, .int .i64 s.b.lo, .int .i64 s.b.hi, .int .i64 s.half.lo, .int .i64 s.half.hi, .int .i64 s.peak.lo, .int .i64 s.peak.hi, .slice p n c] 26 #[.int .i64 t.a, .int .i64 t.b, .int .i64 t.half, .int .i64 t.peak] 92 w8; rw [← hw8]; exact H7.out.alloc _
        have HY : Hid (BoxIs w7.heap.size #[.int .i64 s.wide, .int .i64 s.high, .int .i64 s.fall, .int .i64 s.a.lo, .int .i64 s.a.hi, .int .i64 s.b.lo, .int .i64 s.b.hi, .int .i64 s.half.lo, .int .i64 s.half.hi, .int .i64 s.peak.lo, .int .i64 s.peak.hi, .slice p n c] w8) := by show BoxIs _ _ _; rw [← hw8]; exact BoxIs.start _ _ _
        have HBB : Hid (Below w7.heap.size w7 w8) := hid (by rw [← hw8]; exact (Below.refl _ _).alloc (Nat.le_refl _) _)
        replace HQ0 := hid (HQ0.out.below HBB.out)
        replace HX := hid (HX.out.below HBB.out)
        replace HRL := hid (HRL.out.below HBB.out)
        go_upto_region 11 with fail
        clear hw8 HBB e0 e1 e2 e3 e4 e5 e6 e7 e8 e9 e10 e11
        go_wp2_with fail
        refine (boundsR_any ql N dl (truR s) _ HRL.out HNL.out).mono ?_
        rintro e w9 ⟨rfl, hb⟩
        have H9 := hid (H8.out.step (hb.mono (by have := H8.out.size; omega)))
        replace HQ0 := hid (HQ0.out.below hb)
        replace HX := hid (HX.out.below hb)
        replace HRL := hid (HRL.out.below hb)
        replace HY := hid (HY.out.below hb)
        rw [HWA.out, HWB.out, HWH.out, HWP.out]
        clear hb
        have k3 := (HY.out.2 3 (.int .i64 s.a.lo) rfl).1; have f3 := (HY.out.2 3 (.int .i64 s.a.lo) rfl).2; have k4 := (HY.out.2 4 (.int .i64 s.a.hi) rfl).1; have f4 := (HY.out.2 4 (.int .i64 s.a.hi) rfl).2; have k5 := (HY.out.2 5 (.int .i64 s.b.lo) rfl).1; have f5 := (HY.out.2 5 (.int .i64 s.b.lo) rfl).2; have k6 := (HY.out.2 6 (.int .i64 s.b.hi) rfl).1; have f6 := (HY.out.2 6 (.int .i64 s.b.hi) rfl).2; have k7 := (HY.out.2 7 (.int .i64 s.half.lo) rfl).1; have f7 := (HY.out.2 7 (.int .i64 s.half.lo) rfl).2; have k8 := (HY.out.2 8 (.int .i64 s.half.hi) rfl).1; have f8 := (HY.out.2 8 (.int .i64 s.half.hi) rfl).2; have k9 := (HY.out.2 9 (.int .i64 s.peak.lo) rfl).1; have f9 := (HY.out.2 9 (.int .i64 s.peak.lo) rfl).2; have k10 := (HY.out.2 10 (.int .i64 s.peak.hi) rfl).1; have f10 := (HY.out.2 10 (.int .i64 s.peak.hi) rfl).2
        have HP : Hid (BoxIs w7.heap.size #[.int .i64 (bndS s).wide, .int .i64 (bndS s).high, .int .i64 (bndS s).fall, .int .i64 (bndS s).a.lo, .int .i64 (bndS s).a.hi, .int .i64 (bndS s).b.lo, .int .i64 (bndS s).b.hi, .int .i64 (bndS s).half.lo, .int .i64 (bndS s).half.hi, .int .i64 (bndS s).peak.lo, .int .i64 (bndS s).peak.hi, .slice p n c] ((((((((w9.setCell ⟨w7.heap.size, 3, none⟩ (.int .i64 (bndS s).a.lo)).setCell ⟨w7.heap.size, 4, none⟩ (.int .i64 (bndS s).a.hi)).setCell ⟨w7.heap.size, 5, none⟩ (.int .i64 (bndS s).b.lo)).setCell ⟨w7.heap.size, 6, none⟩ (.int .i64 (bndS s).b.hi)).setCell ⟨w7.heap.size, 7, none⟩ (.int .i64 (bndS s).half.lo)).setCell ⟨w7.heap.size, 8, none⟩ (.int .i64 (bndS s).half.hi)).setCell ⟨w7.heap.size, 9, none⟩ (.int .i64 (bndS s).peak.lo)).setCell ⟨w7.heap.size, 10, none⟩ (.int .i64 (bndS s).peak.hi))) := hid ((((((((HY.out.put (j := 3) (.int .i64 (bndS s).a.lo)).put (j := 4) (.int .i64 (bndS s).a.hi)).put (j := 5) (.int .i64 (bndS s).b.lo)).put (j := 6) (.int .i64 (bndS s).b.hi)).put (j := 7) (.int .i64 (bndS s).half.lo)).put (j := 8) (.int .i64 (bndS s).half.hi)).put (j := 9) (.int .i64 (bndS s).peak.lo)).put (j := 10) (.int .i64 (bndS s).peak.hi))
        have HO := hid ((((((((HX.out.other (b' := w7.heap.size) (k' := 3) (by have := HNE.out; omega) (.int .i64 (bndS s).a.lo)).other (b' := w7.heap.size) (k' := 4) (by have := HNE.out; omega) (.int .i64 (bndS s).a.hi)).other (b' := w7.heap.size) (k' := 5) (by have := HNE.out; omega) (.int .i64 (bndS s).b.lo)).other (b' := w7.heap.size) (k' := 6) (by have := HNE.out; omega) (.int .i64 (bndS s).b.hi)).other (b' := w7.heap.size) (k' := 7) (by have := HNE.out; omega) (.int .i64 (bndS s).half.lo)).other (b' := w7.heap.size) (k' := 8) (by have := HNE.out; omega) (.int .i64 (bndS s).half.hi)).other (b' := w7.heap.size) (k' := 9) (by have := HNE.out; omega) (.int .i64 (bndS s).peak.lo)).other (b' := w7.heap.size) (k' := 10) (by have := HNE.out; omega) (.int .i64 (bndS s).peak.hi))
        have HB9 : Hid (Below w7.heap.size w9 ((((((((w9.setCell ⟨w7.heap.size, 3, none⟩ (.int .i64 (bndS s).a.lo)).setCell ⟨w7.heap.size, 4, none⟩ (.int .i64 (bndS s).a.hi)).setCell ⟨w7.heap.size, 5, none⟩ (.int .i64 (bndS s).b.lo)).setCell ⟨w7.heap.size, 6, none⟩ (.int .i64 (bndS s).b.hi)).setCell ⟨w7.heap.size, 7, none⟩ (.int .i64 (bndS s).half.lo)).setCell ⟨w7.heap.size, 8, none⟩ (.int .i64 (bndS s).half.hi)).setCell ⟨w7.heap.size, 9, none⟩ (.int .i64 (bndS s).peak.lo)).setCell ⟨w7.heap.size, 10, none⟩ (.int .i64 (bndS s).peak.hi))) := hid (((((((((Below.refl w7.heap.size w9).setCell (p := ⟨w7.heap.size, 3, none⟩) (Nat.le_refl _) (.int .i64 (bndS s).a.lo)).setCell (p := ⟨w7.heap.size, 4, none⟩) (Nat.le_refl _) (.int .i64 (bndS s).a.hi)).setCell (p := ⟨w7.heap.size, 5, none⟩) (Nat.le_refl _) (.int .i64 (bndS s).b.lo)).setCell (p := ⟨w7.heap.size, 6, none⟩) (Nat.le_refl _) (.int .i64 (bndS s).b.hi)).setCell (p := ⟨w7.heap.size, 7, none⟩) (Nat.le_refl _) (.int .i64 (bndS s).half.lo)).setCell (p := ⟨w7.heap.size, 8, none⟩) (Nat.le_refl _) (.int .i64 (bndS s).half.hi)).setCell (p := ⟨w7.heap.size, 9, none⟩) (Nat.le_refl _) (.int .i64 (bndS s).peak.lo)).setCell (p := ⟨w7.heap.size, 10, none⟩) (Nat.le_refl _) (.int .i64 (bndS s).peak.hi))
        have HW9 := hid (H9.out.step (HB9.out.mono (by have := HLO.out; omega)))
        go_upto_region 12 with fail
        clear k3 f3 k4 f4 k5 f5 k6 f6 k7 f7 k8 f8 k9 f9 k10 f10
        generalize ((((((((w9.setCell ⟨w7.heap.size, 3, none⟩ (.int .i64 (bndS s).a.lo)).setCell ⟨w7.heap.size, 4, none⟩ (.int .i64 (bndS s).a.hi)).setCell ⟨w7.heap.size, 5, none⟩ (.int .i64 (bndS s).b.lo)).setCell ⟨w7.heap.size, 6, none⟩ (.int .i64 (bndS s).b.hi)).setCell ⟨w7.heap.size, 7, none⟩ (.int .i64 (bndS s).half.lo)).setCell ⟨w7.heap.size, 8, none⟩ (.int .i64 (bndS s).half.hi)).setCell ⟨w7.heap.size, 9, none⟩ (.int .i64 (bndS s).peak.lo)).setCell ⟨w7.heap.size, 10, none⟩ (.int .i64 (bndS s).peak.hi)) = w10 at HP HO HB9 HW9 ⊢
        have g0 := (HO.out.2 0 (.int .i64 (bndS s).wide) rfl).1; have k0 := (HP.out.2 0 (.int .i64 (bndS s).wide) rfl).1; have g1 := (HO.out.2 1 (.int .i64 (bndS s).high) rfl).1; have k1 := (HP.out.2 1 (.int .i64 (bndS s).high) rfl).1; have g2 := (HO.out.2 2 (.int .i64 (bndS s).fall) rfl).1; have k2 := (HP.out.2 2 (.int .i64 (bndS s).fall) rfl).1; have g3 := (HO.out.2 3 (.int .i64 (bndS s).a.lo) rfl).1; have k3 := (HP.out.2 3 (.int .i64 (bndS s).a.lo) rfl).1; have g4 := (HO.out.2 4 (.int .i64 (bndS s).a.hi) rfl).1; have k4 := (HP.out.2 4 (.int .i64 (bndS s).a.hi) rfl).1; have g5 := (HO.out.2 5 (.int .i64 (bndS s).b.lo) rfl).1; have k5 := (HP.out.2 5 (.int .i64 (bndS s).b.lo) rfl).1; have g6 := (HO.out.2 6 (.int .i64 (bndS s).b.hi) rfl).1; have k6 := (HP.out.2 6 (.int .i64 (bndS s).b.hi) rfl).1; have g7 := (HO.out.2 7 (.int .i64 (bndS s).half.lo) rfl).1; have k7 := (HP.out.2 7 (.int .i64 (bndS s).half.lo) rfl).1; have g8 := (HO.out.2 8 (.int .i64 (bndS s).half.hi) rfl).1; have k8 := (HP.out.2 8 (.int .i64 (bndS s).half.hi) rfl).1; have g9 := (HO.out.2 9 (.int .i64 (bndS s).peak.lo) rfl).1; have k9 := (HP.out.2 9 (.int .i64 (bndS s).peak.lo) rfl).1; have g10 := (HO.out.2 10 (.int .i64 (bndS s).peak.hi) rfl).1; have k10 := (HP.out.2 10 (.int .i64 (bndS s).peak.hi) rfl).1; have g11 := (HO.out.2 11 (.slice q m d) rfl).1; have k11 := (HP.out.2 11 (.slice p n c) rfl).1
        go_wp2_with fail
        refine (same_any (bndS s) q m d p n c _ (HQ.out.below (Below.trans HQ0.out (HB9.out.mono HQL.out))) (HC.out.below HW9.out.below) HN9.out).mono ?_
        rintro e w11 ⟨rfl, hb⟩
        clear g0 k0 g1 k1 g2 k2 g3 k3 g4 k4 g5 k5 g6 k6 g7 k7 g8 k8 g9 k9 g10 k10 g11 k11
        have H10 := HW9
        have H11 := hid (H10.out.step (hb.mono (by have := H10.out.size; omega)))
        clear hb
        go_wp2_with fail
        refine (awake_any _).mono ?_
        rintro e w99 ⟨rfl, hb⟩
        go_wp2_with fail
        go_ret
        exact ⟨rfl, H11.out.below.trans (hb.mono H11.out.below.size)⟩
    · obtain ⟨F, hFF⟩ : ∃ F, faultS s = F := ⟨_, rfl⟩
      have HE : Hid (sureE s true = F) := by show _ = _; rw [sureE, if_neg hF, hFF]
      have HPR : Hid (provedB s t = false) := by show _ = _; unfold provedB; rw [show (faultS s == 0) = false by simpa using hF]; rfl
      have HF := hid hFF
      rw [hFF] at hF
      have HF1 := hid hF
      have HF2 : Hid ((F == 0) = false) := by show _ = _; simpa using hF
      have HF3 : Hid ((F != 0) = true) := by show _ = _; simpa using hF
      clear hF hFF
      have e0 := (StoAt.of H1.out.cell1).c0; have e1 := (StoAt.of H1.out.cell1).c1; have e2 := (StoAt.of H1.out.cell1).c2; have e3 := (StoAt.of H1.out.cell1).c3; have e4 := (StoAt.of H1.out.cell1).c4; have e5 := (StoAt.of H1.out.cell1).c5; have e6 := (StoAt.of H1.out.cell1).c6; have e7 := (StoAt.of H1.out.cell1).c7; have e8 := (StoAt.of H1.out.cell1).c8; have e9 := (StoAt.of H1.out.cell1).c9; have e10 := (StoAt.of H1.out.cell1).c10; have e11 := (StoAt.of H1.out.cell1).c11
      go_wp2_with fail
      refine (storm20_any s p n c w1 (HC.out.below H1.out.below) HN9.out).mono ?_
      rintro e w2 ⟨q1, m1, d1, rfl, hc, hb⟩
      have H2 := hid (H1.out.step (hb.mono (by have := H1.out.size; omega)))
      have HK1 := hid hc
      clear e0 e1 e2 e3 e4 e5 e6 e7 e8 e9 e10 e11 hb hc
      go_wp2_with fail
      refine (bounds_bad s q1 m1 d1 _ HK1.out F HE.out HF1.out).mono ?_
      rintro e w3 ⟨q, m, d, rfl, hc, hb⟩
      have H3 := hid (H2.out.step (hb.mono (by have := H2.out.size; omega)))
      replace HK1 := hid (HK1.out.below hb)
      have HQ := hid hc
      clear hb hc
      obtain ⟨w4, hw4⟩ : ∃ V, (w3.alloc (.cells #[.int .i64 0, .int .i64 0, .int .i64 0, .int .i64 0, .int .i64 0, .int .i64 0, .int .i64 0, .int .i64 0, .int .i64 0, .int .i64 0, .int .i64 0, .slice q m d] 35)) = V := ⟨_, rfl⟩
      have H4 : Hid (Boxed2 w #[.int .i64 s.wide, .int .i64 s.high, .int .i64 s.fall, .int .i64 s.a.lo, .int .i64 s.a.hi, .int .i64 s.b.lo, .int .i64 s.b.hi, .int .i64 s.half.lo, .int .i64 s.half.hi, .int .i64 s.peak.lo, .int .i64 s.peak.hi, .slice p n c] 26 #[.int .i64 t.a, .int .i64 t.b, .int .i64 t.half, .int .i64 t.peak] 92 w4) := by show Boxed2 w #[.int .i64 s.wide, .int .i64 s.high, .int .i64 s.fall, .int .i64 s.a.lo, .int .i64 s.a.hi, .int .i64 s.b.lo, .int .i64 s.b.hi, .int .i64 s.half.lo, .int .i64 s.half.hi, .int .i64 s.peak.lo, .int .i64 s.peak.hi, .slice p n c] 26 #[.int .i64 t.a, .int .i64 t.b, .int .i64 t.half, .int .i64 t.peak] 92 w4; rw [← hw4]; exact H3.out.alloc _
      have HX : Hid (BoxIs w3.heap.size #[.int .i64 0, .int .i64 0, .int .i64 0, .int .i64 0, .int .i64 0, .int .i64 0, .int .i64 0, .int .i64 0, .int .i64 0, .int .i64 0, .int .i64 0, .slice q m d] w4) := by show BoxIs _ _ _; rw [← hw4]; exact BoxIs.start _ _ _
      have HBB : Hid (Below w3.heap.size w3 w4) := hid (by rw [← hw4]; exact (Below.refl _ _).alloc (Nat.le_refl _) _)
      replace HQ := hid (HQ.out.below HBB.out)
      go_upto_region 4 with fail
      clear hw4 HBB 
      refine wp_region_held_drew (S := fun V => Boxed2 w #[.int .i64 s.wide, .int .i64 s.high, .int .i64 s.fall, .int .i64 s.a.lo, .int .i64 s.a.hi, .int .i64 s.b.lo, .int .i64 s.b.hi, .int .i64 s.half.lo, .int .i64 s.half.hi, .int .i64 s.peak.lo, .int .i64 s.peak.hi, .slice p n c] 26 #[.int .i64 t.a, .int .i64 t.b, .int .i64 t.half, .int .i64 t.peak] 92 V ∧ Below w4.heap.size w4 V) (by kernel_rfl) (⟨H4.out.drew, (Below.refl _ _).drew⟩) (fun hS => ?_)
      simp only [List.size_toArray, List.length_cons, List.length_nil, Nat.reduceAdd, Array.replicate_succ, Array.replicate_zero, List.push_toArray, List.nil_append, List.cons_append]
      refine wpAnyH_take (i := 0) (v := ?_) rfl (by kernel_rfl) (by kernel_rfl) (by kernel_rfl) (fun _ _ _ h => h) (Or.inl ⟨by rfl, fun V hV => ?_⟩) (by assumption) ?_
      rotate_left
      · have e0 := (StoAt.of hV.1.cell1).c0; have e1 := (StoAt.of hV.1.cell1).c1; have e2 := (StoAt.of hV.1.cell1).c2; have e3 := (StoAt.of hV.1.cell1).c3; have e4 := (StoAt.of hV.1.cell1).c4; have e5 := (StoAt.of hV.1.cell1).c5; have e6 := (StoAt.of hV.1.cell1).c6; have e7 := (StoAt.of hV.1.cell1).c7; have e8 := (StoAt.of hV.1.cell1).c8; have e9 := (StoAt.of hV.1.cell1).c9; have e10 := (StoAt.of hV.1.cell1).c10; have e11 := (StoAt.of hV.1.cell1).c11; go_simp
        try with_reducible rfl
      try simp only [Act.put, List.getElem_toArray, List.getElem_cons_zero, List.setIfInBounds_toArray, List.set_cons_zero, List.set_cons_succ]
      refine wpAnyH_take (i := 2) (v := ?_) rfl (by kernel_rfl) (by kernel_rfl) (by kernel_rfl) (fun _ _ _ h => h) (Or.inl ⟨by rfl, fun V hV => ?_⟩) (by assumption) ?_
      rotate_left
      · have d0 := (TruAt.of hV.1.cell2).c0; have d1 := (TruAt.of hV.1.cell2).c1; have d2 := (TruAt.of hV.1.cell2).c2; have d3 := (TruAt.of hV.1.cell2).c3; go_simp
        try with_reducible rfl
      try simp only [Act.put, List.getElem_toArray, List.getElem_cons_zero, List.getElem_cons_succ, List.setIfInBounds_toArray, List.set_cons_zero, List.set_cons_succ]
      refine wpAnyH_ready (rs := [1]) (by kernel_rfl) (by simp) ?_
      refine AllReadyH.cons (o := _) rfl (fun K hK => ?_) AllReadyH.nil
      go_simp
      refine (storm20_any s p n c _ (HC.out.below hS.1.below) HN9.out).mono ?_
      rintro e s1 ⟨q9, m9, d9, rfl, hc9, hb⟩
      have HQ9 := hid hc9
      clear hc9
      refine hK.out _ _ (⟨hS.1.step (hb.mono (by have := hS.1.size; omega)), hS.2.trans (hb.mono hS.2.size)⟩) (fun hS => ?_)
      clear hK K
      try simp only [List.setIfInBounds_toArray, List.set_cons_zero, List.set_cons_succ]
      refine wpAnyH_ready (rs := [3]) (by kernel_rfl) (by simp) ?_
      refine AllReadyH.cons (o := _) rfl (fun K hK => ?_) AllReadyH.nil
      go_simp
      (with_reducible refine (truth53_any t _).mono ?_)
      rintro e s3 ⟨rfl, hb⟩
      have HQ9 := hid (HQ9.out.below hb)
      refine hK.out _ _ (⟨hS.1.step (hb.mono (by have := hS.1.size; omega)), hS.2.trans (hb.mono hS.2.size)⟩) (fun hS => ?_)
      clear hK K
      try simp only [List.setIfInBounds_toArray, List.set_cons_zero, List.set_cons_succ]
      refine wpAnyH_ready (rs := [4]) (by kernel_rfl) (by simp) ?_
      refine AllReadyH.cons (o := _) rfl (fun K hK => ?_) AllReadyH.nil
      go_simp
      refine (prove_any s q9 m9 d9 t _ HQ9.out).mono ?_
      rintro e w5 ⟨rfl, hb⟩
      rw [HPR.out]
      refine hK.out _ _ (⟨hS.1.step (hb.mono (by have := hS.1.size; omega)), hS.2.trans (hb.mono hS.2.size)⟩) (fun hS => ?_)
      clear hK K
      try simp only [List.setIfInBounds_toArray, List.set_cons_zero, List.set_cons_succ]
      refine wpAnyH_take (i := 5) (v := ?_) rfl (by kernel_rfl) (by kernel_rfl) (by kernel_rfl) (fun _ _ _ h => h) (Or.inl ⟨by rfl, fun V hV => ?_⟩) (by assumption) ?_
      rotate_left
      · go_simp
        try with_reducible rfl
      try simp only [Act.put, List.getElem_toArray, List.getElem_cons_zero, List.getElem_cons_succ, List.setIfInBounds_toArray, List.set_cons_zero, List.set_cons_succ]
      refine wpAnyH_done (by kernel_rfl) ?_ _
      have H5 := hid hS.1
      replace HQ := hid (HQ.out.below hS.2)
      replace HX := hid (HX.out.below hS.2)
      clear hS
      go_upto_region 5 with fail
      refine wp_region_held_drew (S := fun V => Boxed2 w #[.int .i64 s.wide, .int .i64 s.high, .int .i64 s.fall, .int .i64 s.a.lo, .int .i64 s.a.hi, .int .i64 s.b.lo, .int .i64 s.b.hi, .int .i64 s.half.lo, .int .i64 s.half.hi, .int .i64 s.peak.lo, .int .i64 s.peak.hi, .slice p n c] 26 #[.int .i64 t.a, .int .i64 t.b, .int .i64 t.half, .int .i64 t.peak] 92 V ∧ Below w5.heap.size w5 V) (by kernel_rfl) (⟨H5.out.drew, (Below.refl _ _).drew⟩) (fun hS => ?_)
      simp only [List.size_toArray, List.length_cons, List.length_nil, Nat.reduceAdd, Array.replicate_succ, Array.replicate_zero, List.push_toArray, List.nil_append, List.cons_append]
      refine wpAnyH_take (i := 0) (v := ?_) rfl (by kernel_rfl) (by kernel_rfl) (by kernel_rfl) (fun _ _ _ h => h) (Or.inl ⟨by rfl, fun V hV => ?_⟩) (by assumption) ?_
      rotate_left
      · have e0 := (StoAt.of hV.1.cell1).c0; have e1 := (StoAt.of hV.1.cell1).c1; have e2 := (StoAt.of hV.1.cell1).c2; have e3 := (StoAt.of hV.1.cell1).c3; have e4 := (StoAt.of hV.1.cell1).c4; have e5 := (StoAt.of hV.1.cell1).c5; have e6 := (StoAt.of hV.1.cell1).c6; have e7 := (StoAt.of hV.1.cell1).c7; have e8 := (StoAt.of hV.1.cell1).c8; have e9 := (StoAt.of hV.1.cell1).c9; have e10 := (StoAt.of hV.1.cell1).c10; have e11 := (StoAt.of hV.1.cell1).c11; go_simp
        try with_reducible rfl
      try simp only [Act.put, List.getElem_toArray, List.getElem_cons_zero, List.setIfInBounds_toArray, List.set_cons_zero, List.set_cons_succ]
      refine wpAnyH_take (i := 3) (v := ?_) rfl (by kernel_rfl) (by kernel_rfl) (by kernel_rfl) (fun _ _ _ h => h) (Or.inl ⟨by rfl, fun V hV => ?_⟩) (by assumption) ?_
      rotate_left
      · have e0 := (StoAt.of hV.1.cell1).c0; have e1 := (StoAt.of hV.1.cell1).c1; have e2 := (StoAt.of hV.1.cell1).c2; have e3 := (StoAt.of hV.1.cell1).c3; have e4 := (StoAt.of hV.1.cell1).c4; have e5 := (StoAt.of hV.1.cell1).c5; have e6 := (StoAt.of hV.1.cell1).c6; have e7 := (StoAt.of hV.1.cell1).c7; have e8 := (StoAt.of hV.1.cell1).c8; have e9 := (StoAt.of hV.1.cell1).c9; have e10 := (StoAt.of hV.1.cell1).c10; have e11 := (StoAt.of hV.1.cell1).c11; go_simp
        try with_reducible rfl
      try simp only [Act.put, List.getElem_toArray, List.getElem_cons_zero, List.getElem_cons_succ, List.setIfInBounds_toArray, List.set_cons_zero, List.set_cons_succ]
      refine wpAnyH_ready (rs := [1]) (by kernel_rfl) (by simp) ?_
      refine AllReadyH.cons (o := _) rfl (fun K hK => ?_) AllReadyH.nil
      go_simp
      refine (storm20_any s p n c _ (HC.out.below hS.1.below) HN9.out).mono ?_
      rintro e s1 ⟨q8, m8, d8, rfl, hc8, hb⟩
      have HQ8 := hid hc8
      clear hc8
      refine hK.out _ _ (⟨hS.1.step (hb.mono (by have := hS.1.size; omega)), hS.2.trans (hb.mono hS.2.size)⟩) (fun hS => ?_)
      clear hK K
      try simp only [List.setIfInBounds_toArray, List.set_cons_zero, List.set_cons_succ]
      refine wpAnyH_ready (rs := [2]) (by kernel_rfl) (by simp) ?_
      refine AllReadyH.cons (o := _) rfl (fun K hK => ?_) AllReadyH.nil
      go_simp
      refine (checkStorm_any s q8 m8 d8 _ HQ8.out).mono ?_
      rintro e s2 ⟨rfl, hb⟩
      rw [HF.out]
      refine hK.out _ _ (⟨hS.1.step (hb.mono (by have := hS.1.size; omega)), hS.2.trans (hb.mono hS.2.size)⟩) (fun hS => ?_)
      clear hK K
      try simp only [List.setIfInBounds_toArray, List.set_cons_zero, List.set_cons_succ]
      refine wpAnyH_ready (rs := [4]) (by kernel_rfl) (by simp) ?_
      refine AllReadyH.cons (o := _) rfl (fun K hK => ?_) AllReadyH.nil
      go_simp
      (with_reducible refine (HFL.out _ hS.1.below).mono ?_)
      rintro e s4 ⟨rfl, hb⟩
      rw [HF.out]
      refine hK.out _ _ (⟨hS.1.step (hb.mono (by have := hS.1.size; omega)), hS.2.trans (hb.mono hS.2.size)⟩) (fun hS => ?_)
      clear hK K
      try simp only [List.setIfInBounds_toArray, List.set_cons_zero, List.set_cons_succ]
      refine wpAnyH_take (i := 5) (v := ?_) rfl (by kernel_rfl) (by kernel_rfl) (by kernel_rfl) (fun _ _ _ h => h) (Or.inl ⟨by rfl, fun V hV => ?_⟩) (by assumption) ?_
      rotate_left
      · have f1 := HF2.out; have f2 := HF3.out; go_simp
        try with_reducible rfl
      try simp only [Act.put, List.getElem_toArray, List.getElem_cons_zero, List.getElem_cons_succ, List.setIfInBounds_toArray, List.set_cons_zero, List.set_cons_succ]
      refine wpAnyH_take (i := 6) (v := ?_) rfl (by kernel_rfl) (by kernel_rfl) (by kernel_rfl) (fun _ _ _ h => h) (Or.inl ⟨by rfl, fun V hV => ?_⟩) (by assumption) ?_
      rotate_left
      · go_simp
        try with_reducible rfl
      try simp only [Act.put, List.getElem_toArray, List.getElem_cons_zero, List.getElem_cons_succ, List.setIfInBounds_toArray, List.set_cons_zero, List.set_cons_succ]
      refine wpAnyH_take (i := 7) (v := ?_) rfl (by kernel_rfl) (by kernel_rfl) (by kernel_rfl) (fun _ _ _ h => h) (Or.inl ⟨by rfl, fun V hV => ?_⟩) (by assumption) ?_
      rotate_left
      · go_simp
        try with_reducible rfl
      try simp only [Act.put, List.getElem_toArray, List.getElem_cons_zero, List.getElem_cons_succ, List.setIfInBounds_toArray, List.set_cons_zero, List.set_cons_succ]
      refine wpAnyH_take (i := 8) (v := ?_) rfl (by kernel_rfl) (by kernel_rfl) (by kernel_rfl) (fun _ _ _ h => h) (Or.inl ⟨by rfl, fun V hV => ?_⟩) (by assumption) ?_
      rotate_left
      · have e0 := (StoAt.of hV.1.cell1).c0; have e1 := (StoAt.of hV.1.cell1).c1; have e2 := (StoAt.of hV.1.cell1).c2; have e3 := (StoAt.of hV.1.cell1).c3; have e4 := (StoAt.of hV.1.cell1).c4; have e5 := (StoAt.of hV.1.cell1).c5; have e6 := (StoAt.of hV.1.cell1).c6; have e7 := (StoAt.of hV.1.cell1).c7; have e8 := (StoAt.of hV.1.cell1).c8; have e9 := (StoAt.of hV.1.cell1).c9; have e10 := (StoAt.of hV.1.cell1).c10; have e11 := (StoAt.of hV.1.cell1).c11; go_simp
        try with_reducible rfl
      try simp only [Act.put, List.getElem_toArray, List.getElem_cons_zero, List.getElem_cons_succ, List.setIfInBounds_toArray, List.set_cons_zero, List.set_cons_succ]
      refine wpAnyH_ready (rs := [9]) (by kernel_rfl) (by simp) ?_
      refine AllReadyH.cons (o := _) rfl (fun K hK => ?_) AllReadyH.nil
      go_simp
      (with_reducible refine (HFT.out _ hS.1.below).mono ?_)
      rintro e s9 ⟨rfl, hb⟩
      rw [HF.out]
      refine hK.out _ _ (⟨hS.1.step (hb.mono (by have := hS.1.size; omega)), hS.2.trans (hb.mono hS.2.size)⟩) (fun hS => ?_)
      clear hK K
      try simp only [List.setIfInBounds_toArray, List.set_cons_zero, List.set_cons_succ]
      refine wpAnyH_take (i := 10) (v := ?_) rfl (by kernel_rfl) (by kernel_rfl) (by kernel_rfl) (fun _ _ _ h => h) (Or.inl ⟨by rfl, fun V hV => ?_⟩) (by assumption) ?_
      rotate_left
      · have f1 := HF2.out; have f2 := HF3.out; go_simp
        try with_reducible rfl
      try simp only [Act.put, List.getElem_toArray, List.getElem_cons_zero, List.getElem_cons_succ, List.setIfInBounds_toArray, List.set_cons_zero, List.set_cons_succ]
      refine wpAnyH_take (i := 11) (v := ?_) rfl (by kernel_rfl) (by kernel_rfl) (by kernel_rfl) (fun _ _ _ h => h) (Or.inl ⟨by rfl, fun V hV => ?_⟩) (by assumption) ?_
      rotate_left
      · go_simp
        try with_reducible rfl
      try simp only [Act.put, List.getElem_toArray, List.getElem_cons_zero, List.getElem_cons_succ, List.setIfInBounds_toArray, List.set_cons_zero, List.set_cons_succ]
      refine wpAnyH_take (i := 12) (v := undef) rfl (by kernel_rfl) (by kernel_rfl) (by kernel_rfl) (fun _ _ _ h => h) (Or.inr ⟨by rfl, rfl⟩) (by assumption) ?_
      try simp only [Act.put, List.getElem_toArray, List.getElem_cons_zero, List.getElem_cons_succ, List.setIfInBounds_toArray, List.set_cons_zero, List.set_cons_succ]
      refine wpAnyH_take (i := 13) (v := undef) rfl (by kernel_rfl) (by kernel_rfl) (by kernel_rfl) (fun _ _ _ h => h) (Or.inr ⟨by rfl, rfl⟩) (by assumption) ?_
      try simp only [Act.put, List.getElem_toArray, List.getElem_cons_zero, List.getElem_cons_succ, List.setIfInBounds_toArray, List.set_cons_zero, List.set_cons_succ]
      refine wpAnyH_take (i := 14) (v := undef) rfl (by kernel_rfl) (by kernel_rfl) (by kernel_rfl) (fun _ _ _ h => h) (Or.inr ⟨by rfl, rfl⟩) (by assumption) ?_
      try simp only [Act.put, List.getElem_toArray, List.getElem_cons_zero, List.getElem_cons_succ, List.setIfInBounds_toArray, List.set_cons_zero, List.set_cons_succ]
      refine wpAnyH_take (i := 15) (v := ?_) rfl (by kernel_rfl) (by kernel_rfl) (by kernel_rfl) (fun _ _ _ h => h) (Or.inl ⟨by rfl, fun V hV => ?_⟩) (by assumption) ?_
      rotate_left
      · go_simp
        try with_reducible rfl
      try simp only [Act.put, List.getElem_toArray, List.getElem_cons_zero, List.getElem_cons_succ, List.setIfInBounds_toArray, List.set_cons_zero, List.set_cons_succ]
      refine wpAnyH_take (i := 16) (v := ?_) rfl (by kernel_rfl) (by kernel_rfl) (by kernel_rfl) (fun _ _ _ h => h) (Or.inl ⟨by rfl, fun V hV => ?_⟩) (by assumption) ?_
      rotate_left
      · go_simp
        try with_reducible rfl
      try simp only [Act.put, List.getElem_toArray, List.getElem_cons_zero, List.getElem_cons_succ, List.setIfInBounds_toArray, List.set_cons_zero, List.set_cons_succ]
      refine wpAnyH_take (i := 17) (v := ?_) rfl (by kernel_rfl) (by kernel_rfl) (by kernel_rfl) (fun _ _ _ h => h) (Or.inl ⟨by rfl, fun V hV => ?_⟩) (by assumption) ?_
      rotate_left
      · go_simp
        try with_reducible rfl
      try simp only [Act.put, List.getElem_toArray, List.getElem_cons_zero, List.getElem_cons_succ, List.setIfInBounds_toArray, List.set_cons_zero, List.set_cons_succ]
      refine wpAnyH_done (by kernel_rfl) ?_ _
      have H6 := hid hS.1
      replace HQ := hid (HQ.out.below hS.2)
      replace HX := hid (HX.out.below hS.2)
      clear hS
      generalize s9 = w6 at H6 HQ HX ⊢
      have e0 := (StoAt.of H6.out.cell1).c0; have e1 := (StoAt.of H6.out.cell1).c1; have e2 := (StoAt.of H6.out.cell1).c2; have e3 := (StoAt.of H6.out.cell1).c3; have e4 := (StoAt.of H6.out.cell1).c4; have e5 := (StoAt.of H6.out.cell1).c5; have e6 := (StoAt.of H6.out.cell1).c6; have e7 := (StoAt.of H6.out.cell1).c7; have e8 := (StoAt.of H6.out.cell1).c8; have e9 := (StoAt.of H6.out.cell1).c9; have e10 := (StoAt.of H6.out.cell1).c10; have e11 := (StoAt.of H6.out.cell1).c11
      go_wp2_with fail
      refine (sure_any s p n c _ (HC.out.below H6.out.below)).mono ?_
      rintro e w7 ⟨v, rfl, hown, hb⟩
      have H7 := hid (H6.out.step (hb.mono (by have := H6.out.size; omega)))
      replace HQ := hid (HQ.out.below hb)
      replace HX := hid (HX.out.below hb)
      obtain ⟨ql, dl, rfl, hrl⟩ := hown.slice cellsT_len
      have HRL := hid hrl
      rw [HE.out]
      clear e0 e1 e2 e3 e4 e5 e6 e7 e8 e9 e10 e11 hb hown hrl
      have f1 := HF2.out; have f2 := HF3.out
      have g0 := (HX.out.2 0 (.int .i64 0) rfl).1; have g1 := (HX.out.2 1 (.int .i64 0) rfl).1; have g2 := (HX.out.2 2 (.int .i64 0) rfl).1; have g3 := (HX.out.2 3 (.int .i64 0) rfl).1; have g4 := (HX.out.2 4 (.int .i64 0) rfl).1; have g5 := (HX.out.2 5 (.int .i64 0) rfl).1; have g6 := (HX.out.2 6 (.int .i64 0) rfl).1; have g7 := (HX.out.2 7 (.int .i64 0) rfl).1; have g8 := (HX.out.2 8 (.int .i64 0) rfl).1; have g9 := (HX.out.2 9 (.int .i64 0) rfl).1; have g10 := (HX.out.2 10 (.int .i64 0) rfl).1; have g11 := (HX.out.2 11 (.slice q m d) rfl).1
      go_wp2_with fail
      refine (empty57_any q m d _ HQ.out).mono ?_
      rintro e w8 ⟨rfl, hb⟩
      have H8 := hid (H7.out.step (hb.mono (by have := H7.out.size; omega)))
      replace HQ := hid (HQ.out.below hb)
      replace HX := hid (HX.out.below hb)
      replace HRL := hid (HRL.out.below hb)
      clear hb
      clear g0 g1 g2 g3 g4 g5 g6 g7 g8 g9 g10 g11
      go_wp2_with fail
      refine (awake_any _).mono ?_
      rintro e w99 ⟨rfl, hb⟩
      go_wp2_with fail
      go_ret
      exact ⟨rfl, H8.out.below.trans (hb.mono H8.out.below.size)⟩
end Go.Proofs.Ytfnefkenheglhaa
