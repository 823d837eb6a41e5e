/- StormVerdicts: the verdict of any rectangle, and the truth that shows that a place of it is in the path, or not, are as the document says, or the error is: all truths and places are tried. For each storm, each rectangle and each choice. -/
import Derived.Test.YtfnefkenheglhaaA14
import Derived.Test.YtfnefkenheglhaaP14
import Derived.Test.YtfnefkenheglhaaLawS0
import Derived.Test.YtfnefkenheglhaaLawB
import Derived.Test.YtfnefkenheglhaaLawAwake
namespace Go.Proofs.Ytfnefkenheglhaa
open Go.RowKit

theorem thin_n2 {s : Sto} (h : thinB s = true) : s.cards.length ≤ 9 := by
  unfold thinB at h
  rw [Bool.and_eq_true, decide_eq_true_eq] at h
  exact h.1
theorem truth_in2 {s : Sto} {t : Tru} (h : t ∈ truthL s) : truB s t = true := mem_poss.1 (List.mem_filter.1 h).1
theorem truR_small2 {s : Sto} (ok : OkS s) : ∀ t ∈ truR s, SmallT t := fun _t ht => ok.smallT (truth_in2 ((truR_perm ok.pos).mem_iff.1 ht))
theorem verd_perm {s : Sto} (ok : OkS s) (x y : Rng) : verdT s (truR s) x y = verdT s (truthL s) x y := by
  have h := truR_perm ok.pos
  have e : ∀ f : Tru → Bool, (truR s).all f = (truthL s).all f := fun f => by
    rw [Bool.eq_iff_iff, List.all_eq_true, List.all_eq_true]
    exact ⟨fun k t ht => k t (h.mem_iff.2 ht), fun k t ht => k t (h.mem_iff.1 ht)⟩
  unfold verdT; rw [e, e]
theorem any_find {s : Sto} (ok : OkS s) (f : Tru → Bool) : (truR s).any f = ((truthL s).find? f).isSome := by
  have h := truR_perm ok.pos
  rw [Bool.eq_iff_iff, List.any_eq_true, List.find?_isSome]
  exact ⟨fun ⟨t, ht, k⟩ => ⟨t, h.mem_iff.1 ht, k⟩, fun ⟨t, ht, k⟩ => ⟨t, h.mem_iff.2 ht, k⟩⟩

set_option maxRecDepth 40000 in
set_option maxHeartbeats 16000000 in
theorem stormVerdicts_any (s : Sto) (p : Option Addr) (n c : Nat) (x y : Rng) (inn : Bool) (w : World) (hcs : CrdsAt w p n s.cards) :
    Calls Try.prog 15 #[.agg #[.int .i64 s.wide, .int .i64 s.high, .int .i64 s.fall, .int .i64 s.a.lo, .int .i64 s.a.hi, .int .i64 s.b.lo, .int .i64 s.b.hi, .int .i64 s.half.lo, .int .i64 s.half.hi, .int .i64 s.peak.lo, .int .i64 s.peak.hi, .slice p n c], .agg #[.int .i64 x.lo, .int .i64 x.hi, .int .i64 y.lo, .int .i64 y.hi], .bool inn] w fun e w' => e = .returned (.bool true) ∧ Below w.heap.size w w' := by
  have HC := hid hcs
  have HTH := hid (fun W (hb : Below w.heap.size w W) => thin_any s p n c W (hcs.below hb))
  have HFL := hid (fun W (hb : Below w.heap.size w W) => faultL_any s p n c W (hcs.below hb))
  clear hcs
  have H0 : Hid (Boxed2 w #[.int .i64 s.wide, .int .i64 s.high, .int .i64 s.fall, .int .i64 s.a.lo, .int .i64 s.a.hi, .int .i64 s.b.lo, .int .i64 s.b.hi, .int .i64 s.half.lo, .int .i64 s.half.hi, .int .i64 s.peak.lo, .int .i64 s.peak.hi, .slice p n c] 26 #[.int .i64 x.lo, .int .i64 x.hi, .int .i64 y.lo, .int .i64 y.hi] 64 ((w.alloc (.cells #[.int .i64 s.wide, .int .i64 s.high, .int .i64 s.fall, .int .i64 s.a.lo, .int .i64 s.a.hi, .int .i64 s.b.lo, .int .i64 s.b.hi, .int .i64 s.half.lo, .int .i64 s.half.hi, .int .i64 s.peak.lo, .int .i64 s.peak.hi, .slice p n c] 26)).alloc (.cells #[.int .i64 x.lo, .int .i64 x.hi, .int .i64 y.lo, .int .i64 y.hi] 64))) := Below.refl _ _
  go_enter Try.func15, Try.ntmps15
  go_wp2_with fail
  (with_reducible refine (HTH.out _ ?_).mono ?_)
  · exact H0.out.below
  rintro e w1 ⟨rfl, hb⟩
  have H1 := hid (H0.out.step (hb.mono (by have := H0.out.size; omega)))
  clear hb
  cases hth : thinB s
  · clear hth
    go_wp2_with fail
    refine (awake_any _).mono ?_
    rintro e w99 ⟨rfl, hb⟩
    go_wp2_with fail
    go_ret
    exact ⟨rfl, H1.out.below.trans (hb.mono H1.out.below.size)⟩
  · have hn9 := thin_n2 hth
    have HN9 : Hid (n ≤ 1000) := hid (by have := HC.out.1; omega)
    clear hth
    obtain ⟨VV, hVV⟩ : ∃ v, verdV s x y = v := ⟨_, rfl⟩
    have HVV := hid hVV
    obtain ⟨E1, hE1⟩ : ∃ v, sureE s (rectB s x y) = v := ⟨_, rfl⟩
    have HE1 := hid hE1
    obtain ⟨TT, hTT⟩ : ∃ v, showV s x y inn = v := ⟨_, rfl⟩
    have HTT := hid hTT
    obtain ⟨E2, hE2⟩ : ∃ v, showE s x y inn = v := ⟨_, rfl⟩
    have HE2 := hid hE2
    clear hVV hE1 hTT hE2
    go_upto_region 3 with fail
    refine wp_region_held_drew (S := fun V => Boxed2 w #[.int .i64 s.wide, .int .i64 s.high, .int .i64 s.fall, .int .i64 s.a.lo, .int .i64 s.a.hi, .int .i64 s.b.lo, .int .i64 s.b.hi, .int .i64 s.half.lo, .int .i64 s.half.hi, .int .i64 s.peak.lo, .int .i64 s.peak.hi, .slice p n c] 26 #[.int .i64 x.lo, .int .i64 x.hi, .int .i64 y.lo, .int .i64 y.hi] 64 V ∧ Below w1.heap.size w1 V) (by kernel_rfl) (⟨H1.out.drew, (Below.refl _ _).drew⟩) (fun hS => ?_)
    simp only [List.size_toArray, List.length_cons, List.length_nil, Nat.reduceAdd, Array.replicate_succ, Array.replicate_zero, List.push_toArray, List.nil_append, List.cons_append]
    refine wpAnyH_take (i := 0) (v := ?_) rfl (by kernel_rfl) (by kernel_rfl) (by kernel_rfl) (fun _ _ _ h => h) (Or.inl ⟨by rfl, fun V hV => ?_⟩) (by assumption) ?_
    rotate_left
    · have e0 := (StoAt.of hV.1.cell1).c0; have e1 := (StoAt.of hV.1.cell1).c1; have e2 := (StoAt.of hV.1.cell1).c2; have e3 := (StoAt.of hV.1.cell1).c3; have e4 := (StoAt.of hV.1.cell1).c4; have e5 := (StoAt.of hV.1.cell1).c5; have e6 := (StoAt.of hV.1.cell1).c6; have e7 := (StoAt.of hV.1.cell1).c7; have e8 := (StoAt.of hV.1.cell1).c8; have e9 := (StoAt.of hV.1.cell1).c9; have e10 := (StoAt.of hV.1.cell1).c10; have e11 := (StoAt.of hV.1.cell1).c11; go_simp
      try with_reducible rfl
    try simp only [Act.put, List.getElem_toArray, List.getElem_cons_zero, List.setIfInBounds_toArray, List.set_cons_zero, List.set_cons_succ]
    refine wpAnyH_take (i := 2) (v := ?_) rfl (by kernel_rfl) (by kernel_rfl) (by kernel_rfl) (fun _ _ _ h => h) (Or.inl ⟨by rfl, fun V hV => ?_⟩) (by assumption) ?_
    rotate_left
    · have d0 := (RecAt.of hV.1.cell2).c0; have d1 := (RecAt.of hV.1.cell2).c1; have d2 := (RecAt.of hV.1.cell2).c2; have d3 := (RecAt.of hV.1.cell2).c3; go_simp
      try with_reducible rfl
    try simp only [Act.put, List.getElem_toArray, List.getElem_cons_zero, List.getElem_cons_succ, List.setIfInBounds_toArray, List.set_cons_zero, List.set_cons_succ]
    refine wpAnyH_ready (rs := [1]) (by kernel_rfl) (by simp) ?_
    refine AllReadyH.cons (o := _) rfl (fun K hK => ?_) AllReadyH.nil
    go_simp
    refine (storm20_any s p n c _ (HC.out.below hS.1.below) HN9.out).mono ?_
    rintro e s1 ⟨q9, m9, d9, rfl, hc9, hb⟩
    have HQ9 := hid hc9
    clear hc9
    refine hK.out _ _ (⟨hS.1.step (hb.mono (by have := hS.1.size; omega)), hS.2.trans (hb.mono hS.2.size)⟩) (fun hS => ?_)
    clear hK K
    try simp only [List.setIfInBounds_toArray, List.set_cons_zero, List.set_cons_succ]
    refine wpAnyH_ready (rs := [3]) (by kernel_rfl) (by simp) ?_
    refine AllReadyH.cons (o := _) rfl (fun K hK => ?_) AllReadyH.nil
    go_simp
    (with_reducible refine (rect40_any x y _).mono ?_)
    rintro e s3 ⟨rfl, hb⟩
    have HQ9 := hid (HQ9.out.below hb)
    refine hK.out _ _ (⟨hS.1.step (hb.mono (by have := hS.1.size; omega)), hS.2.trans (hb.mono hS.2.size)⟩) (fun hS => ?_)
    clear hK K
    try simp only [List.setIfInBounds_toArray, List.set_cons_zero, List.set_cons_succ]
    refine wpAnyH_ready (rs := [4]) (by kernel_rfl) (by simp) ?_
    refine AllReadyH.cons (o := _) rfl (fun K hK => ?_) AllReadyH.nil
    go_simp
    refine (verdict_any s q9 m9 d9 x y _ HQ9.out).mono ?_
    rintro e w2 ⟨rfl, hb⟩
    rw [HVV.out, HE1.out]
    refine hK.out _ _ (⟨hS.1.step (hb.mono (by have := hS.1.size; omega)), hS.2.trans (hb.mono hS.2.size)⟩) (fun hS => ?_)
    clear hK K
    try simp only [List.setIfInBounds_toArray, List.set_cons_zero, List.set_cons_succ]
    refine wpAnyH_take (i := 5) (v := ?_) rfl (by kernel_rfl) (by kernel_rfl) (by kernel_rfl) (fun _ _ _ h => h) (Or.inl ⟨by rfl, fun V hV => ?_⟩) (by assumption) ?_
    rotate_left
    · go_simp
      try with_reducible rfl
    try simp only [Act.put, List.getElem_toArray, List.getElem_cons_zero, List.getElem_cons_succ, List.setIfInBounds_toArray, List.set_cons_zero, List.set_cons_succ]
    refine wpAnyH_take (i := 6) (v := ?_) rfl (by kernel_rfl) (by kernel_rfl) (by kernel_rfl) (fun _ _ _ h => h) (Or.inl ⟨by rfl, fun V hV => ?_⟩) (by assumption) ?_
    rotate_left
    · go_simp
      try with_reducible rfl
    try simp only [Act.put, List.getElem_toArray, List.getElem_cons_zero, List.getElem_cons_succ, List.setIfInBounds_toArray, List.set_cons_zero, List.set_cons_succ]
    refine wpAnyH_take (i := 7) (v := ?_) rfl (by kernel_rfl) (by kernel_rfl) (by kernel_rfl) (fun _ _ _ h => h) (Or.inl ⟨by rfl, fun V hV => ?_⟩) (by assumption) ?_
    rotate_left
    · go_simp
      try with_reducible rfl
    try simp only [Act.put, List.getElem_toArray, List.getElem_cons_zero, List.getElem_cons_succ, List.setIfInBounds_toArray, List.set_cons_zero, List.set_cons_succ]
    refine wpAnyH_take (i := 8) (v := ?_) rfl (by kernel_rfl) (by kernel_rfl) (by kernel_rfl) (fun _ _ _ h => h) (Or.inl ⟨by rfl, fun V hV => ?_⟩) (by assumption) ?_
    rotate_left
    · go_simp
      try with_reducible rfl
    try simp only [Act.put, List.getElem_toArray, List.getElem_cons_zero, List.getElem_cons_succ, List.setIfInBounds_toArray, List.set_cons_zero, List.set_cons_succ]
    refine wpAnyH_take (i := 9) (v := ?_) rfl (by kernel_rfl) (by kernel_rfl) (by kernel_rfl) (fun _ _ _ h => h) (Or.inl ⟨by rfl, fun V hV => ?_⟩) (by assumption) ?_
    rotate_left
    · go_simp
      try with_reducible rfl
    try simp only [Act.put, List.getElem_toArray, List.getElem_cons_zero, List.getElem_cons_succ, List.setIfInBounds_toArray, List.set_cons_zero, List.set_cons_succ]
    refine wpAnyH_done (by kernel_rfl) ?_ _
    have H2 := hid hS.1
    clear hS
    go_upto_region 4 with fail
    go_cut [9, 10] from 19 (fun a9 b9 wr => ∃ bt, a9 = .pointer (some ⟨bt, 0, none⟩) ∧ b9 = .int .i64 E2 ∧ BoxIs bt #[.int .i64 TT.a, .int .i64 TT.b, .int .i64 TT.half, .int .i64 TT.peak] wr ∧ Boxed2 w #[.int .i64 s.wide, .int .i64 s.high, .int .i64 s.fall, .int .i64 s.a.lo, .int .i64 s.a.hi, .int .i64 s.b.lo, .int .i64 s.b.hi, .int .i64 s.half.lo, .int .i64 s.half.hi, .int .i64 s.peak.lo, .int .i64 s.peak.hi, .slice p n c] 26 #[.int .i64 x.lo, .int .i64 x.hi, .int .i64 y.lo, .int .i64 y.hi] 64 wr)
    case first =>
      obtain ⟨wd, hwd⟩ : ∃ V, w2.drew = V := ⟨_, rfl⟩
      have HD := hid H2.out.drew
      rw [hwd] at HD
      refine wp_region_held_drew (S := fun V => Boxed2 w #[.int .i64 s.wide, .int .i64 s.high, .int .i64 s.fall, .int .i64 s.a.lo, .int .i64 s.a.hi, .int .i64 s.b.lo, .int .i64 s.b.hi, .int .i64 s.half.lo, .int .i64 s.half.hi, .int .i64 s.peak.lo, .int .i64 s.peak.hi, .slice p n c] 26 #[.int .i64 x.lo, .int .i64 x.hi, .int .i64 y.lo, .int .i64 y.hi] 64 V ∧ Below wd.heap.size wd V) (by kernel_rfl) (by rw [hwd]; exact ⟨HD.out, Below.refl _ _⟩) (fun hS => ?_)
      rw [hwd] at hS ⊢
      clear hwd
      simp only [List.size_toArray, List.length_cons, List.length_nil, Nat.reduceAdd, Array.replicate_succ, Array.replicate_zero, List.push_toArray, List.nil_append, List.cons_append]
      refine wpAnyH_take (i := 0) (v := ?_) rfl (by kernel_rfl) (by kernel_rfl) (by kernel_rfl) (fun _ _ _ h => h) (Or.inl ⟨by rfl, fun V hV => ?_⟩) (by assumption) ?_
      rotate_left
      · have e0 := (StoAt.of hV.1.cell1).c0; have e1 := (StoAt.of hV.1.cell1).c1; have e2 := (StoAt.of hV.1.cell1).c2; have e3 := (StoAt.of hV.1.cell1).c3; have e4 := (StoAt.of hV.1.cell1).c4; have e5 := (StoAt.of hV.1.cell1).c5; have e6 := (StoAt.of hV.1.cell1).c6; have e7 := (StoAt.of hV.1.cell1).c7; have e8 := (StoAt.of hV.1.cell1).c8; have e9 := (StoAt.of hV.1.cell1).c9; have e10 := (StoAt.of hV.1.cell1).c10; have e11 := (StoAt.of hV.1.cell1).c11; go_simp
        try with_reducible rfl
      try simp only [Act.put, List.getElem_toArray, List.getElem_cons_zero, List.setIfInBounds_toArray, List.set_cons_zero, List.set_cons_succ]
      refine wpAnyH_take (i := 2) (v := ?_) rfl (by kernel_rfl) (by kernel_rfl) (by kernel_rfl) (fun _ _ _ h => h) (Or.inl ⟨by rfl, fun V hV => ?_⟩) (by assumption) ?_
      rotate_left
      · have d0 := (RecAt.of hV.1.cell2).c0; have d1 := (RecAt.of hV.1.cell2).c1; have d2 := (RecAt.of hV.1.cell2).c2; have d3 := (RecAt.of hV.1.cell2).c3; go_simp
        try with_reducible rfl
      try simp only [Act.put, List.getElem_toArray, List.getElem_cons_zero, List.getElem_cons_succ, List.setIfInBounds_toArray, List.set_cons_zero, List.set_cons_succ]
      refine wpAnyH_take (i := 4) (v := ?_) rfl (by kernel_rfl) (by kernel_rfl) (by kernel_rfl) (fun _ _ _ h => h) (Or.inl ⟨by rfl, fun V hV => ?_⟩) (by assumption) ?_
      rotate_left
      · go_simp
        try with_reducible rfl
      try simp only [Act.put, List.getElem_toArray, List.getElem_cons_zero, List.getElem_cons_succ, List.setIfInBounds_toArray, List.set_cons_zero, List.set_cons_succ]
      refine wpAnyH_ready (rs := [1, 9]) (by kernel_rfl) (by simp) ?_
      refine AllReadyH.cons (o := _) rfl (fun K hK => ?_) ?_
      · skip
        go_simp
        refine (storm20_any s p n c _ (HC.out.below hS.1.below) HN9.out).mono ?_
        rintro e v1 ⟨q9, m9, d9, rfl, hc9, hb⟩
        have HQ9 := hid hc9
        clear hc9
        refine hK.out _ _ (⟨hS.1.step (hb.mono (by have := hS.1.size; omega)), hS.2.trans (hb.mono hS.2.size)⟩) (fun hS => ?_)
        clear hK K
        try simp only [List.setIfInBounds_toArray, List.set_cons_zero, List.set_cons_succ]
        refine wpAnyH_ready (rs := [3, 9]) (by kernel_rfl) (by simp) ?_
        refine AllReadyH.cons (o := _) rfl (fun K hK => ?_) ?_
        · skip
          go_simp
          (with_reducible refine (rect40_any x y _).mono ?_)
          rintro e v3 ⟨rfl, hb⟩
          replace HQ9 := hid (HQ9.out.below hb)
          refine hK.out _ _ (⟨hS.1.step (hb.mono (by have := hS.1.size; omega)), hS.2.trans (hb.mono hS.2.size)⟩) (fun hS => ?_)
          clear hK K
          try simp only [List.setIfInBounds_toArray, List.set_cons_zero, List.set_cons_succ]
          refine wpAnyH_ready (rs := [5, 9]) (by kernel_rfl) (by simp) ?_
          refine AllReadyH.cons (o := _) rfl (fun K hK => ?_) ?_
          · skip
            go_simp
            refine (show_any s q9 m9 d9 x y inn _ HQ9.out).mono ?_
            rintro e v5 ⟨rfl, hb⟩
            rw [HTT.out, HE2.out]
            refine hK.out _ _ (⟨hS.1.step (hb.mono (by have := hS.1.size; omega)), hS.2.trans (hb.mono hS.2.size)⟩) (fun hS => ?_)
            clear hK K
            try simp only [List.setIfInBounds_toArray, List.set_cons_zero, List.set_cons_succ]
            refine wpAnyH_take (i := 6) (v := ?_) rfl (by kernel_rfl) (by kernel_rfl) (by kernel_rfl) (fun _ _ _ h => h) (Or.inl ⟨by rfl, fun V hV => ?_⟩) (by assumption) ?_
            rotate_left
            · go_simp
              try with_reducible rfl
            try simp only [Act.put, List.getElem_toArray, List.getElem_cons_zero, List.getElem_cons_succ, List.setIfInBounds_toArray, List.set_cons_zero, List.set_cons_succ]
            refine wpAnyH_take (i := 7) (v := ?_) rfl (by kernel_rfl) (by kernel_rfl) (by kernel_rfl) (fun _ _ _ h => h) (Or.inl ⟨by rfl, fun V hV => ?_⟩) (by assumption) ?_
            rotate_left
            · go_simp
              try with_reducible rfl
            try simp only [Act.put, List.getElem_toArray, List.getElem_cons_zero, List.getElem_cons_succ, List.setIfInBounds_toArray, List.set_cons_zero, List.set_cons_succ]
            refine wpAnyH_take (i := 8) (v := ?_) rfl (by kernel_rfl) (by kernel_rfl) (by kernel_rfl) (fun _ _ _ h => h) (Or.inl ⟨by rfl, fun V hV => ?_⟩) (by assumption) ?_
            rotate_left
            · go_simp
              try with_reducible rfl
            try simp only [Act.put, List.getElem_toArray, List.getElem_cons_zero, List.getElem_cons_succ, List.setIfInBounds_toArray, List.set_cons_zero, List.set_cons_succ]
            refine wpAnyH_ready (rs := [9]) (by kernel_rfl) (by simp) ?_
            refine AllReadyH.cons (o := _) rfl (fun K hK => ?_) AllReadyH.nil
            obtain ⟨v9, hv9⟩ : ∃ V, v5.alloc (.cells #[.int .i64 0, .int .i64 0, .int .i64 0, .int .i64 0] 94) = V := ⟨_, rfl⟩
            have hb : Below v5.heap.size v5 v9 := by rw [← hv9]; exact (Below.refl _ _).alloc (Nat.le_refl _) _
            have HN : Hid (BoxIs v5.heap.size #[.int .i64 0, .int .i64 0, .int .i64 0, .int .i64 0] v9) := by show BoxIs _ _ _; rw [← hv9]; exact BoxIs.start _ _ _
            have HL : Hid (wd.heap.size ≤ v5.heap.size) := hid hS.2.size
            go_simp
            refine hK.out _ _ (⟨hS.1.step (hb.mono (by have := hS.1.size; omega)), hS.2.trans (hb.mono hS.2.size)⟩) (fun hS => ?_)
            clear hK K
            try simp only [List.setIfInBounds_toArray, List.set_cons_zero, List.set_cons_succ]
            refine wpAnyH_ready (rs := [10]) (by kernel_rfl) (by simp) ?_
            refine AllReadyH.cons (o := _) rfl (fun K hK => ?_) AllReadyH.nil
            have k0 := (HN.out.2 0 (.int .i64 0) rfl).1; have f0 := (HN.out.2 0 (.int .i64 0) rfl).2
            have k1 := (HN.out.2 1 (.int .i64 0) rfl).1; have f1 := (HN.out.2 1 (.int .i64 0) rfl).2
            have k2 := (HN.out.2 2 (.int .i64 0) rfl).1; have f2 := (HN.out.2 2 (.int .i64 0) rfl).2
            have k3 := (HN.out.2 3 (.int .i64 0) rfl).1; have f3 := (HN.out.2 3 (.int .i64 0) rfl).2
            have HP : Hid (BoxIs v5.heap.size #[.int .i64 TT.a, .int .i64 TT.b, .int .i64 TT.half, .int .i64 TT.peak] ((((v9.setCell ⟨v5.heap.size, 0, none⟩ (.int .i64 TT.a)).setCell ⟨v5.heap.size, 1, none⟩ (.int .i64 TT.b)).setCell ⟨v5.heap.size, 2, none⟩ (.int .i64 TT.half)).setCell ⟨v5.heap.size, 3, none⟩ (.int .i64 TT.peak))) := hid ((((HN.out.put (j := 0) (.int .i64 TT.a)).put (j := 1) (.int .i64 TT.b)).put (j := 2) (.int .i64 TT.half)).put (j := 3) (.int .i64 TT.peak))
            have HSW := hid (hS.1.step ((((((Below.refl wd.heap.size v9).setCell (p := ⟨v5.heap.size, 0, none⟩) HL.out (.int .i64 TT.a)).setCell (p := ⟨v5.heap.size, 1, none⟩) HL.out (.int .i64 TT.b)).setCell (p := ⟨v5.heap.size, 2, none⟩) HL.out (.int .i64 TT.half)).setCell (p := ⟨v5.heap.size, 3, none⟩) HL.out (.int .i64 TT.peak)).mono (by have := HD.out.size; exact this)))
            have HSB := hid (hS.2.trans (((((Below.refl wd.heap.size v9).setCell (p := ⟨v5.heap.size, 0, none⟩) HL.out (.int .i64 TT.a)).setCell (p := ⟨v5.heap.size, 1, none⟩) HL.out (.int .i64 TT.b)).setCell (p := ⟨v5.heap.size, 2, none⟩) HL.out (.int .i64 TT.half)).setCell (p := ⟨v5.heap.size, 3, none⟩) HL.out (.int .i64 TT.peak)))
            clear hS
            go_simp
            clear k0 f0 k1 f1 k2 f2 k3 f3
            generalize ((((v9.setCell ⟨v5.heap.size, 0, none⟩ (.int .i64 TT.a)).setCell ⟨v5.heap.size, 1, none⟩ (.int .i64 TT.b)).setCell ⟨v5.heap.size, 2, none⟩ (.int .i64 TT.half)).setCell ⟨v5.heap.size, 3, none⟩ (.int .i64 TT.peak)) = V9 at HP HSW HSB ⊢
            replace HN := HP
            refine hK.out _ _ (⟨HSW.out, HSB.out⟩) (fun hS => ?_)
            clear hK K
            try simp only [List.setIfInBounds_toArray, List.set_cons_zero, List.set_cons_succ]
            refine wpAnyH_take (i := 11) (v := ?_) rfl (by kernel_rfl) (by kernel_rfl) (by kernel_rfl) (fun _ _ _ h => h) (Or.inl ⟨by rfl, fun V hV => ?_⟩) (by assumption) ?_
            rotate_left
            · go_simp
              try with_reducible rfl
            try simp only [Act.put, List.getElem_toArray, List.getElem_cons_zero, List.getElem_cons_succ, List.setIfInBounds_toArray, List.set_cons_zero, List.set_cons_succ]
            refine wpAnyH_done (by kernel_rfl) ?_ _
            go_wp2
            go_meet
            case rel => exact ⟨_, rfl, rfl, HN.out, hS.1⟩
          refine AllReadyH.cons (o := _) rfl (fun K hK => ?_) AllReadyH.nil
          obtain ⟨v9, hv9⟩ : ∃ V, v3.alloc (.cells #[.int .i64 0, .int .i64 0, .int .i64 0, .int .i64 0] 94) = V := ⟨_, rfl⟩
          have hb : Below v3.heap.size v3 v9 := by rw [← hv9]; exact (Below.refl _ _).alloc (Nat.le_refl _) _
          have HN : Hid (BoxIs v3.heap.size #[.int .i64 0, .int .i64 0, .int .i64 0, .int .i64 0] v9) := by show BoxIs _ _ _; rw [← hv9]; exact BoxIs.start _ _ _
          have HL : Hid (wd.heap.size ≤ v3.heap.size) := hid hS.2.size
          replace HQ9 := hid (HQ9.out.below hb)
          go_simp
          refine hK.out _ _ (⟨hS.1.step (hb.mono (by have := hS.1.size; omega)), hS.2.trans (hb.mono hS.2.size)⟩) (fun hS => ?_)
          clear hK K
          try simp only [List.setIfInBounds_toArray, List.set_cons_zero, List.set_cons_succ]
          refine wpAnyH_ready (rs := [5]) (by kernel_rfl) (by simp) ?_
          refine AllReadyH.cons (o := _) rfl (fun K hK => ?_) AllReadyH.nil
          go_simp
          refine (show_any s q9 m9 d9 x y inn _ HQ9.out).mono ?_
          rintro e v5 ⟨rfl, hb⟩
          rw [HTT.out, HE2.out]
          replace HN := hid (HN.out.below hb)
          refine hK.out _ _ (⟨hS.1.step (hb.mono (by have := hS.1.size; omega)), hS.2.trans (hb.mono hS.2.size)⟩) (fun hS => ?_)
          clear hK K
          try simp only [List.setIfInBounds_toArray, List.set_cons_zero, List.set_cons_succ]
          refine wpAnyH_take (i := 6) (v := ?_) rfl (by kernel_rfl) (by kernel_rfl) (by kernel_rfl) (fun _ _ _ h => h) (Or.inl ⟨by rfl, fun V hV => ?_⟩) (by assumption) ?_
          rotate_left
          · go_simp
            try with_reducible rfl
          try simp only [Act.put, List.getElem_toArray, List.getElem_cons_zero, List.getElem_cons_succ, List.setIfInBounds_toArray, List.set_cons_zero, List.set_cons_succ]
          refine wpAnyH_take (i := 7) (v := ?_) rfl (by kernel_rfl) (by kernel_rfl) (by kernel_rfl) (fun _ _ _ h => h) (Or.inl ⟨by rfl, fun V hV => ?_⟩) (by assumption) ?_
          rotate_left
          · go_simp
            try with_reducible rfl
          try simp only [Act.put, List.getElem_toArray, List.getElem_cons_zero, List.getElem_cons_succ, List.setIfInBounds_toArray, List.set_cons_zero, List.set_cons_succ]
          refine wpAnyH_take (i := 8) (v := ?_) rfl (by kernel_rfl) (by kernel_rfl) (by kernel_rfl) (fun _ _ _ h => h) (Or.inl ⟨by rfl, fun V hV => ?_⟩) (by assumption) ?_
          rotate_left
          · go_simp
            try with_reducible rfl
          try simp only [Act.put, List.getElem_toArray, List.getElem_cons_zero, List.getElem_cons_succ, List.setIfInBounds_toArray, List.set_cons_zero, List.set_cons_succ]
          refine wpAnyH_ready (rs := [10]) (by kernel_rfl) (by simp) ?_
          refine AllReadyH.cons (o := _) rfl (fun K hK => ?_) AllReadyH.nil
          have k0 := (HN.out.2 0 (.int .i64 0) rfl).1; have f0 := (HN.out.2 0 (.int .i64 0) rfl).2
          have k1 := (HN.out.2 1 (.int .i64 0) rfl).1; have f1 := (HN.out.2 1 (.int .i64 0) rfl).2
          have k2 := (HN.out.2 2 (.int .i64 0) rfl).1; have f2 := (HN.out.2 2 (.int .i64 0) rfl).2
          have k3 := (HN.out.2 3 (.int .i64 0) rfl).1; have f3 := (HN.out.2 3 (.int .i64 0) rfl).2
          have HP : Hid (BoxIs v3.heap.size #[.int .i64 TT.a, .int .i64 TT.b, .int .i64 TT.half, .int .i64 TT.peak] ((((v5.setCell ⟨v3.heap.size, 0, none⟩ (.int .i64 TT.a)).setCell ⟨v3.heap.size, 1, none⟩ (.int .i64 TT.b)).setCell ⟨v3.heap.size, 2, none⟩ (.int .i64 TT.half)).setCell ⟨v3.heap.size, 3, none⟩ (.int .i64 TT.peak))) := hid ((((HN.out.put (j := 0) (.int .i64 TT.a)).put (j := 1) (.int .i64 TT.b)).put (j := 2) (.int .i64 TT.half)).put (j := 3) (.int .i64 TT.peak))
          have HSW := hid (hS.1.step ((((((Below.refl wd.heap.size v5).setCell (p := ⟨v3.heap.size, 0, none⟩) HL.out (.int .i64 TT.a)).setCell (p := ⟨v3.heap.size, 1, none⟩) HL.out (.int .i64 TT.b)).setCell (p := ⟨v3.heap.size, 2, none⟩) HL.out (.int .i64 TT.half)).setCell (p := ⟨v3.heap.size, 3, none⟩) HL.out (.int .i64 TT.peak)).mono (by have := HD.out.size; exact this)))
          have HSB := hid (hS.2.trans (((((Below.refl wd.heap.size v5).setCell (p := ⟨v3.heap.size, 0, none⟩) HL.out (.int .i64 TT.a)).setCell (p := ⟨v3.heap.size, 1, none⟩) HL.out (.int .i64 TT.b)).setCell (p := ⟨v3.heap.size, 2, none⟩) HL.out (.int .i64 TT.half)).setCell (p := ⟨v3.heap.size, 3, none⟩) HL.out (.int .i64 TT.peak)))
          clear hS
          go_simp
          clear k0 f0 k1 f1 k2 f2 k3 f3
          generalize ((((v5.setCell ⟨v3.heap.size, 0, none⟩ (.int .i64 TT.a)).setCell ⟨v3.heap.size, 1, none⟩ (.int .i64 TT.b)).setCell ⟨v3.heap.size, 2, none⟩ (.int .i64 TT.half)).setCell ⟨v3.heap.size, 3, none⟩ (.int .i64 TT.peak)) = V9 at HP HSW HSB ⊢
          replace HN := HP
          refine hK.out _ _ (⟨HSW.out, HSB.out⟩) (fun hS => ?_)
          clear hK K
          try simp only [List.setIfInBounds_toArray, List.set_cons_zero, List.set_cons_succ]
          refine wpAnyH_take (i := 11) (v := ?_) rfl (by kernel_rfl) (by kernel_rfl) (by kernel_rfl) (fun _ _ _ h => h) (Or.inl ⟨by rfl, fun V hV => ?_⟩) (by assumption) ?_
          rotate_left
          · go_simp
            try with_reducible rfl
          try simp only [Act.put, List.getElem_toArray, List.getElem_cons_zero, List.getElem_cons_succ, List.setIfInBounds_toArray, List.set_cons_zero, List.set_cons_succ]
          refine wpAnyH_done (by kernel_rfl) ?_ _
          go_wp2
          go_meet
          case rel => exact ⟨_, rfl, rfl, HN.out, hS.1⟩
        refine AllReadyH.cons (o := _) rfl (fun K hK => ?_) AllReadyH.nil
        obtain ⟨v9, hv9⟩ : ∃ V, v1.alloc (.cells #[.int .i64 0, .int .i64 0, .int .i64 0, .int .i64 0] 94) = V := ⟨_, rfl⟩
        have hb : Below v1.heap.size v1 v9 := by rw [← hv9]; exact (Below.refl _ _).alloc (Nat.le_refl _) _
        have HN : Hid (BoxIs v1.heap.size #[.int .i64 0, .int .i64 0, .int .i64 0, .int .i64 0] v9) := by show BoxIs _ _ _; rw [← hv9]; exact BoxIs.start _ _ _
        have HL : Hid (wd.heap.size ≤ v1.heap.size) := hid hS.2.size
        replace HQ9 := hid (HQ9.out.below hb)
        go_simp
        refine hK.out _ _ (⟨hS.1.step (hb.mono (by have := hS.1.size; omega)), hS.2.trans (hb.mono hS.2.size)⟩) (fun hS => ?_)
        clear hK K
        try simp only [List.setIfInBounds_toArray, List.set_cons_zero, List.set_cons_succ]
        refine wpAnyH_ready (rs := [3]) (by kernel_rfl) (by simp) ?_
        refine AllReadyH.cons (o := _) rfl (fun K hK => ?_) AllReadyH.nil
        go_simp
        (with_reducible refine (rect40_any x y _).mono ?_)
        rintro e v3 ⟨rfl, hb⟩
        replace HQ9 := hid (HQ9.out.below hb)
        replace HN := hid (HN.out.below hb)
        refine hK.out _ _ (⟨hS.1.step (hb.mono (by have := hS.1.size; omega)), hS.2.trans (hb.mono hS.2.size)⟩) (fun hS => ?_)
        clear hK K
        try simp only [List.setIfInBounds_toArray, List.set_cons_zero, List.set_cons_succ]
        refine wpAnyH_ready (rs := [5]) (by kernel_rfl) (by simp) ?_
        refine AllReadyH.cons (o := _) rfl (fun K hK => ?_) AllReadyH.nil
        go_simp
        refine (show_any s q9 m9 d9 x y inn _ HQ9.out).mono ?_
        rintro e v5 ⟨rfl, hb⟩
        rw [HTT.out, HE2.out]
        replace HN := hid (HN.out.below hb)
        refine hK.out _ _ (⟨hS.1.step (hb.mono (by have := hS.1.size; omega)), hS.2.trans (hb.mono hS.2.size)⟩) (fun hS => ?_)
        clear hK K
        try simp only [List.setIfInBounds_toArray, List.set_cons_zero, List.set_cons_succ]
        refine wpAnyH_take (i := 6) (v := ?_) rfl (by kernel_rfl) (by kernel_rfl) (by kernel_rfl) (fun _ _ _ h => h) (Or.inl ⟨by rfl, fun V hV => ?_⟩) (by assumption) ?_
        rotate_left
        · go_simp
          try with_reducible rfl
        try simp only [Act.put, List.getElem_toArray, List.getElem_cons_zero, List.getElem_cons_succ, List.setIfInBounds_toArray, List.set_cons_zero, List.set_cons_succ]
        refine wpAnyH_take (i := 7) (v := ?_) rfl (by kernel_rfl) (by kernel_rfl) (by kernel_rfl) (fun _ _ _ h => h) (Or.inl ⟨by rfl, fun V hV => ?_⟩) (by assumption) ?_
        rotate_left
        · go_simp
          try with_reducible rfl
        try simp only [Act.put, List.getElem_toArray, List.getElem_cons_zero, List.getElem_cons_succ, List.setIfInBounds_toArray, List.set_cons_zero, List.set_cons_succ]
        refine wpAnyH_take (i := 8) (v := ?_) rfl (by kernel_rfl) (by kernel_rfl) (by kernel_rfl) (fun _ _ _ h => h) (Or.inl ⟨by rfl, fun V hV => ?_⟩) (by assumption) ?_
        rotate_left
        · go_simp
          try with_reducible rfl
        try simp only [Act.put, List.getElem_toArray, List.getElem_cons_zero, List.getElem_cons_succ, List.setIfInBounds_toArray, List.set_cons_zero, List.set_cons_succ]
        refine wpAnyH_ready (rs := [10]) (by kernel_rfl) (by simp) ?_
        refine AllReadyH.cons (o := _) rfl (fun K hK => ?_) AllReadyH.nil
        have k0 := (HN.out.2 0 (.int .i64 0) rfl).1; have f0 := (HN.out.2 0 (.int .i64 0) rfl).2
        have k1 := (HN.out.2 1 (.int .i64 0) rfl).1; have f1 := (HN.out.2 1 (.int .i64 0) rfl).2
        have k2 := (HN.out.2 2 (.int .i64 0) rfl).1; have f2 := (HN.out.2 2 (.int .i64 0) rfl).2
        have k3 := (HN.out.2 3 (.int .i64 0) rfl).1; have f3 := (HN.out.2 3 (.int .i64 0) rfl).2
        have HP : Hid (BoxIs v1.heap.size #[.int .i64 TT.a, .int .i64 TT.b, .int .i64 TT.half, .int .i64 TT.peak] ((((v5.setCell ⟨v1.heap.size, 0, none⟩ (.int .i64 TT.a)).setCell ⟨v1.heap.size, 1, none⟩ (.int .i64 TT.b)).setCell ⟨v1.heap.size, 2, none⟩ (.int .i64 TT.half)).setCell ⟨v1.heap.size, 3, none⟩ (.int .i64 TT.peak))) := hid ((((HN.out.put (j := 0) (.int .i64 TT.a)).put (j := 1) (.int .i64 TT.b)).put (j := 2) (.int .i64 TT.half)).put (j := 3) (.int .i64 TT.peak))
        have HSW := hid (hS.1.step ((((((Below.refl wd.heap.size v5).setCell (p := ⟨v1.heap.size, 0, none⟩) HL.out (.int .i64 TT.a)).setCell (p := ⟨v1.heap.size, 1, none⟩) HL.out (.int .i64 TT.b)).setCell (p := ⟨v1.heap.size, 2, none⟩) HL.out (.int .i64 TT.half)).setCell (p := ⟨v1.heap.size, 3, none⟩) HL.out (.int .i64 TT.peak)).mono (by have := HD.out.size; exact this)))
        have HSB := hid (hS.2.trans (((((Below.refl wd.heap.size v5).setCell (p := ⟨v1.heap.size, 0, none⟩) HL.out (.int .i64 TT.a)).setCell (p := ⟨v1.heap.size, 1, none⟩) HL.out (.int .i64 TT.b)).setCell (p := ⟨v1.heap.size, 2, none⟩) HL.out (.int .i64 TT.half)).setCell (p := ⟨v1.heap.size, 3, none⟩) HL.out (.int .i64 TT.peak)))
        clear hS
        go_simp
        clear k0 f0 k1 f1 k2 f2 k3 f3
        generalize ((((v5.setCell ⟨v1.heap.size, 0, none⟩ (.int .i64 TT.a)).setCell ⟨v1.heap.size, 1, none⟩ (.int .i64 TT.b)).setCell ⟨v1.heap.size, 2, none⟩ (.int .i64 TT.half)).setCell ⟨v1.heap.size, 3, none⟩ (.int .i64 TT.peak)) = V9 at HP HSW HSB ⊢
        replace HN := HP
        refine hK.out _ _ (⟨HSW.out, HSB.out⟩) (fun hS => ?_)
        clear hK K
        try simp only [List.setIfInBounds_toArray, List.set_cons_zero, List.set_cons_succ]
        refine wpAnyH_take (i := 11) (v := ?_) rfl (by kernel_rfl) (by kernel_rfl) (by kernel_rfl) (fun _ _ _ h => h) (Or.inl ⟨by rfl, fun V hV => ?_⟩) (by assumption) ?_
        rotate_left
        · go_simp
          try with_reducible rfl
        try simp only [Act.put, List.getElem_toArray, List.getElem_cons_zero, List.getElem_cons_succ, List.setIfInBounds_toArray, List.set_cons_zero, List.set_cons_succ]
        refine wpAnyH_done (by kernel_rfl) ?_ _
        go_wp2
        go_meet
        case rel => exact ⟨_, rfl, rfl, HN.out, hS.1⟩
      refine AllReadyH.cons (o := _) rfl (fun K hK => ?_) AllReadyH.nil
      obtain ⟨v9, hv9⟩ : ∃ V, wd.alloc (.cells #[.int .i64 0, .int .i64 0, .int .i64 0, .int .i64 0] 94) = V := ⟨_, rfl⟩
      have hb : Below wd.heap.size wd v9 := by rw [← hv9]; exact (Below.refl _ _).alloc (Nat.le_refl _) _
      have HN : Hid (BoxIs wd.heap.size #[.int .i64 0, .int .i64 0, .int .i64 0, .int .i64 0] v9) := by show BoxIs _ _ _; rw [← hv9]; exact BoxIs.start _ _ _
      have HL : Hid (wd.heap.size ≤ wd.heap.size) := hid hS.2.size
      go_simp
      refine hK.out _ _ (⟨hS.1.step (hb.mono (by have := hS.1.size; omega)), hS.2.trans (hb.mono hS.2.size)⟩) (fun hS => ?_)
      clear hK K
      try simp only [List.setIfInBounds_toArray, List.set_cons_zero, List.set_cons_succ]
      refine wpAnyH_ready (rs := [1]) (by kernel_rfl) (by simp) ?_
      refine AllReadyH.cons (o := _) rfl (fun K hK => ?_) AllReadyH.nil
      go_simp
      refine (storm20_any s p n c _ (HC.out.below hS.1.below) HN9.out).mono ?_
      rintro e v1 ⟨q9, m9, d9, rfl, hc9, hb⟩
      have HQ9 := hid hc9
      clear hc9
      replace HN := hid (HN.out.below hb)
      refine hK.out _ _ (⟨hS.1.step (hb.mono (by have := hS.1.size; omega)), hS.2.trans (hb.mono hS.2.size)⟩) (fun hS => ?_)
      clear hK K
      try simp only [List.setIfInBounds_toArray, List.set_cons_zero, List.set_cons_succ]
      refine wpAnyH_ready (rs := [3]) (by kernel_rfl) (by simp) ?_
      refine AllReadyH.cons (o := _) rfl (fun K hK => ?_) AllReadyH.nil
      go_simp
      (with_reducible refine (rect40_any x y _).mono ?_)
      rintro e v3 ⟨rfl, hb⟩
      replace HQ9 := hid (HQ9.out.below hb)
      replace HN := hid (HN.out.below hb)
      refine hK.out _ _ (⟨hS.1.step (hb.mono (by have := hS.1.size; omega)), hS.2.trans (hb.mono hS.2.size)⟩) (fun hS => ?_)
      clear hK K
      try simp only [List.setIfInBounds_toArray, List.set_cons_zero, List.set_cons_succ]
      refine wpAnyH_ready (rs := [5]) (by kernel_rfl) (by simp) ?_
      refine AllReadyH.cons (o := _) rfl (fun K hK => ?_) AllReadyH.nil
      go_simp
      refine (show_any s q9 m9 d9 x y inn _ HQ9.out).mono ?_
      rintro e v5 ⟨rfl, hb⟩
      rw [HTT.out, HE2.out]
      replace HN := hid (HN.out.below hb)
      refine hK.out _ _ (⟨hS.1.step (hb.mono (by have := hS.1.size; omega)), hS.2.trans (hb.mono hS.2.size)⟩) (fun hS => ?_)
      clear hK K
      try simp only [List.setIfInBounds_toArray, List.set_cons_zero, List.set_cons_succ]
      refine wpAnyH_take (i := 6) (v := ?_) rfl (by kernel_rfl) (by kernel_rfl) (by kernel_rfl) (fun _ _ _ h => h) (Or.inl ⟨by rfl, fun V hV => ?_⟩) (by assumption) ?_
      rotate_left
      · go_simp
        try with_reducible rfl
      try simp only [Act.put, List.getElem_toArray, List.getElem_cons_zero, List.getElem_cons_succ, List.setIfInBounds_toArray, List.set_cons_zero, List.set_cons_succ]
      refine wpAnyH_take (i := 7) (v := ?_) rfl (by kernel_rfl) (by kernel_rfl) (by kernel_rfl) (fun _ _ _ h => h) (Or.inl ⟨by rfl, fun V hV => ?_⟩) (by assumption) ?_
      rotate_left
      · go_simp
        try with_reducible rfl
      try simp only [Act.put, List.getElem_toArray, List.getElem_cons_zero, List.getElem_cons_succ, List.setIfInBounds_toArray, List.set_cons_zero, List.set_cons_succ]
      refine wpAnyH_take (i := 8) (v := ?_) rfl (by kernel_rfl) (by kernel_rfl) (by kernel_rfl) (fun _ _ _ h => h) (Or.inl ⟨by rfl, fun V hV => ?_⟩) (by assumption) ?_
      rotate_left
      · go_simp
        try with_reducible rfl
      try simp only [Act.put, List.getElem_toArray, List.getElem_cons_zero, List.getElem_cons_succ, List.setIfInBounds_toArray, List.set_cons_zero, List.set_cons_succ]
      refine wpAnyH_ready (rs := [10]) (by kernel_rfl) (by simp) ?_
      refine AllReadyH.cons (o := _) rfl (fun K hK => ?_) AllReadyH.nil
      have k0 := (HN.out.2 0 (.int .i64 0) rfl).1; have f0 := (HN.out.2 0 (.int .i64 0) rfl).2
      have k1 := (HN.out.2 1 (.int .i64 0) rfl).1; have f1 := (HN.out.2 1 (.int .i64 0) rfl).2
      have k2 := (HN.out.2 2 (.int .i64 0) rfl).1; have f2 := (HN.out.2 2 (.int .i64 0) rfl).2
      have k3 := (HN.out.2 3 (.int .i64 0) rfl).1; have f3 := (HN.out.2 3 (.int .i64 0) rfl).2
      have HP : Hid (BoxIs wd.heap.size #[.int .i64 TT.a, .int .i64 TT.b, .int .i64 TT.half, .int .i64 TT.peak] ((((v5.setCell ⟨wd.heap.size, 0, none⟩ (.int .i64 TT.a)).setCell ⟨wd.heap.size, 1, none⟩ (.int .i64 TT.b)).setCell ⟨wd.heap.size, 2, none⟩ (.int .i64 TT.half)).setCell ⟨wd.heap.size, 3, none⟩ (.int .i64 TT.peak))) := hid ((((HN.out.put (j := 0) (.int .i64 TT.a)).put (j := 1) (.int .i64 TT.b)).put (j := 2) (.int .i64 TT.half)).put (j := 3) (.int .i64 TT.peak))
      have HSW := hid (hS.1.step ((((((Below.refl wd.heap.size v5).setCell (p := ⟨wd.heap.size, 0, none⟩) HL.out (.int .i64 TT.a)).setCell (p := ⟨wd.heap.size, 1, none⟩) HL.out (.int .i64 TT.b)).setCell (p := ⟨wd.heap.size, 2, none⟩) HL.out (.int .i64 TT.half)).setCell (p := ⟨wd.heap.size, 3, none⟩) HL.out (.int .i64 TT.peak)).mono (by have := HD.out.size; exact this)))
      have HSB := hid (hS.2.trans (((((Below.refl wd.heap.size v5).setCell (p := ⟨wd.heap.size, 0, none⟩) HL.out (.int .i64 TT.a)).setCell (p := ⟨wd.heap.size, 1, none⟩) HL.out (.int .i64 TT.b)).setCell (p := ⟨wd.heap.size, 2, none⟩) HL.out (.int .i64 TT.half)).setCell (p := ⟨wd.heap.size, 3, none⟩) HL.out (.int .i64 TT.peak)))
      clear hS
      go_simp
      clear k0 f0 k1 f1 k2 f2 k3 f3
      generalize ((((v5.setCell ⟨wd.heap.size, 0, none⟩ (.int .i64 TT.a)).setCell ⟨wd.heap.size, 1, none⟩ (.int .i64 TT.b)).setCell ⟨wd.heap.size, 2, none⟩ (.int .i64 TT.half)).setCell ⟨wd.heap.size, 3, none⟩ (.int .i64 TT.peak)) = V9 at HP HSW HSB ⊢
      replace HN := HP
      refine hK.out _ _ (⟨HSW.out, HSB.out⟩) (fun hS => ?_)
      clear hK K
      try simp only [List.setIfInBounds_toArray, List.set_cons_zero, List.set_cons_succ]
      refine wpAnyH_take (i := 11) (v := ?_) rfl (by kernel_rfl) (by kernel_rfl) (by kernel_rfl) (fun _ _ _ h => h) (Or.inl ⟨by rfl, fun V hV => ?_⟩) (by assumption) ?_
      rotate_left
      · go_simp
        try with_reducible rfl
      try simp only [Act.put, List.getElem_toArray, List.getElem_cons_zero, List.getElem_cons_succ, List.setIfInBounds_toArray, List.set_cons_zero, List.set_cons_succ]
      refine wpAnyH_done (by kernel_rfl) ?_ _
      go_wp2
      go_meet
      case rel => exact ⟨_, rfl, rfl, HN.out, hS.1⟩
    case rest =>
      obtain ⟨bt, rfl, rfl, hn, hw⟩ := hcut
      have HT := hid hn; have H3 := hid hw
      clear hn hw
      generalize wc = w3 at HT H3 ⊢
      have e0 := (StoAt.of H3.out.cell1).c0; have e1 := (StoAt.of H3.out.cell1).c1; have e2 := (StoAt.of H3.out.cell1).c2; have e3 := (StoAt.of H3.out.cell1).c3; have e4 := (StoAt.of H3.out.cell1).c4; have e5 := (StoAt.of H3.out.cell1).c5; have e6 := (StoAt.of H3.out.cell1).c6; have e7 := (StoAt.of H3.out.cell1).c7; have e8 := (StoAt.of H3.out.cell1).c8; have e9 := (StoAt.of H3.out.cell1).c9; have e10 := (StoAt.of H3.out.cell1).c10; have e11 := (StoAt.of H3.out.cell1).c11
      go_wp2_with fail
      refine (sure_any s p n c _ (HC.out.below H3.out.below)).mono ?_
      rintro e w4 ⟨v, rfl, hown, hb⟩
      have H4 := hid (H3.out.step (hb.mono (by have := H3.out.size; omega)))
      replace HT := hid (HT.out.below hb)
      obtain ⟨ql, dl, rfl, hrl⟩ := hown.slice cellsT_len
      have HRL := hid hrl
      clear e0 e1 e2 e3 e4 e5 e6 e7 e8 e9 e10 e11 hb hown hrl
      have e0 := (StoAt.of H4.out.cell1).c0; have e1 := (StoAt.of H4.out.cell1).c1; have e2 := (StoAt.of H4.out.cell1).c2; have e3 := (StoAt.of H4.out.cell1).c3; have e4 := (StoAt.of H4.out.cell1).c4; have e5 := (StoAt.of H4.out.cell1).c5; have e6 := (StoAt.of H4.out.cell1).c6; have e7 := (StoAt.of H4.out.cell1).c7; have e8 := (StoAt.of H4.out.cell1).c8; have e9 := (StoAt.of H4.out.cell1).c9; have e10 := (StoAt.of H4.out.cell1).c10; have e11 := (StoAt.of H4.out.cell1).c11
      go_wp2_with fail
      (with_reducible refine (HFL.out _ ?_).mono ?_)
      · exact H4.out.below
      rintro e w5 ⟨rfl, hb⟩
      have H5 := hid (H4.out.step (hb.mono (by have := H4.out.size; omega)))
      replace HT := hid (HT.out.below hb)
      replace HRL := hid (HRL.out.below hb)
      clear e0 e1 e2 e3 e4 e5 e6 e7 e8 e9 e10 e11 hb
      by_cases hF : faultS s = 0
      · have HOK := hid (fault_iff.1 hF)
        have HS1 : Hid (E1 = if rectB s x y = true then (if truthL s = [] then 11 else 0) else 2) := by show _ = _; rw [← HE1.out, sureE, if_pos hF]
        have HS2 : Hid (sureE s true = if truthL s = [] then 11 else 0) := by show _ = _; rw [sureE, if_pos hF, if_pos rfl]
        have q1 := HOK.out.w2; have q2 := HOK.out.w12; have q3 := HOK.out.h1; have q4 := HOK.out.h12
        rw [hF]
        clear hF
        by_cases hL : truthL s = []
        · skip
          cases hr : rectB s x y
          · skip
            have hE1 : E1 = 2 := by rw [HS1.out, hr]; rfl
            have hES : sureE s true = 11 := by rw [HS2.out, if_pos hL]
            rw [hES]
            have hv0 : VV = 0 := by rw [← HVV.out, verdV, if_neg (by rw [HE1.out, hE1]; decide)]
            have he2 : E2 = 2 := by rw [← HE2.out, showE, if_neg (by rw [HE1.out, hE1]; decide)]; exact HE1.out.trans hE1
            have hT0 : TT = zeroT := by rw [← HTT.out, showV]; exact if_neg (by rw [HE1.out, hE1]; decide)
            have hT1 : TT.a = 0 ∧ TT.b = 0 ∧ TT.half = 0 ∧ TT.peak = 0 := by rw [hT0]; exact ⟨rfl, rfl, rfl, rfl⟩
            rw [hT1.1, hT1.2.1, hT1.2.2.1, hT1.2.2.2] at HT
            clear hT0 hT1
            subst hv0
            rw [he2, hE1]
            clear he2
            have e0 := (StoAt.of H5.out.cell1).c0; have e1 := (StoAt.of H5.out.cell1).c1; have e2 := (StoAt.of H5.out.cell1).c2; have e3 := (StoAt.of H5.out.cell1).c3; have e4 := (StoAt.of H5.out.cell1).c4; have e5 := (StoAt.of H5.out.cell1).c5; have e6 := (StoAt.of H5.out.cell1).c6; have e7 := (StoAt.of H5.out.cell1).c7; have e8 := (StoAt.of H5.out.cell1).c8; have e9 := (StoAt.of H5.out.cell1).c9; have e10 := (StoAt.of H5.out.cell1).c10; have e11 := (StoAt.of H5.out.cell1).c11
            have d0 := (RecAt.of H5.out.cell2).c0; have d1 := (RecAt.of H5.out.cell2).c1; have d2 := (RecAt.of H5.out.cell2).c2; have d3 := (RecAt.of H5.out.cell2).c3
            go_wp2_with fail
            (with_reducible refine (isRect_any s p n c x y _ (by omega) (by omega) (by omega) (by omega)).mono ?_)
            rintro e w6 ⟨rfl, hb⟩
            rw [hr]
            have H6 := hid (H5.out.step (hb.mono (by have := H5.out.size; omega)))
            replace HT := hid (HT.out.below hb)
            replace HRL := hid (HRL.out.below hb)
            clear e0 e1 e2 e3 e4 e5 e6 e7 e8 e9 e10 e11 hb d0 d1 d2 d3
            have x0 := (HT.out.2 0 (.int .i64 0) rfl).1; have x1 := (HT.out.2 1 (.int .i64 0) rfl).1; have x2 := (HT.out.2 2 (.int .i64 0) rfl).1; have x3 := (HT.out.2 3 (.int .i64 0) rfl).1
            go_wp2_with fail
            refine (awake_any _).mono ?_
            rintro e w99 ⟨rfl, hb⟩
            go_wp2_with fail
            go_ret
            exact ⟨rfl, H6.out.below.trans (hb.mono H6.out.below.size)⟩
          · skip
            have hE1 : E1 = 11 := by rw [HS1.out, hr]; simp [hL]
            have hES : sureE s true = 11 := by rw [HS2.out, if_pos hL]
            rw [hES]
            have hv0 : VV = 0 := by rw [← HVV.out, verdV, if_neg (by rw [HE1.out, hE1]; decide)]
            have he2 : E2 = 11 := by rw [← HE2.out, showE, if_neg (by rw [HE1.out, hE1]; decide)]; exact HE1.out.trans hE1
            have hT0 : TT = zeroT := by rw [← HTT.out, showV]; exact if_neg (by rw [HE1.out, hE1]; decide)
            have hT1 : TT.a = 0 ∧ TT.b = 0 ∧ TT.half = 0 ∧ TT.peak = 0 := by rw [hT0]; exact ⟨rfl, rfl, rfl, rfl⟩
            rw [hT1.1, hT1.2.1, hT1.2.2.1, hT1.2.2.2] at HT
            clear hT0 hT1
            subst hv0
            rw [he2, hE1]
            clear he2
            have e0 := (StoAt.of H5.out.cell1).c0; have e1 := (StoAt.of H5.out.cell1).c1; have e2 := (StoAt.of H5.out.cell1).c2; have e3 := (StoAt.of H5.out.cell1).c3; have e4 := (StoAt.of H5.out.cell1).c4; have e5 := (StoAt.of H5.out.cell1).c5; have e6 := (StoAt.of H5.out.cell1).c6; have e7 := (StoAt.of H5.out.cell1).c7; have e8 := (StoAt.of H5.out.cell1).c8; have e9 := (StoAt.of H5.out.cell1).c9; have e10 := (StoAt.of H5.out.cell1).c10; have e11 := (StoAt.of H5.out.cell1).c11
            have d0 := (RecAt.of H5.out.cell2).c0; have d1 := (RecAt.of H5.out.cell2).c1; have d2 := (RecAt.of H5.out.cell2).c2; have d3 := (RecAt.of H5.out.cell2).c3
            go_wp2_with fail
            (with_reducible refine (isRect_any s p n c x y _ (by omega) (by omega) (by omega) (by omega)).mono ?_)
            rintro e w6 ⟨rfl, hb⟩
            rw [hr]
            have H6 := hid (H5.out.step (hb.mono (by have := H5.out.size; omega)))
            replace HT := hid (HT.out.below hb)
            replace HRL := hid (HRL.out.below hb)
            clear e0 e1 e2 e3 e4 e5 e6 e7 e8 e9 e10 e11 hb d0 d1 d2 d3
            have x0 := (HT.out.2 0 (.int .i64 0) rfl).1; have x1 := (HT.out.2 1 (.int .i64 0) rfl).1; have x2 := (HT.out.2 2 (.int .i64 0) rfl).1; have x3 := (HT.out.2 3 (.int .i64 0) rfl).1
            go_wp2_with fail
            refine (awake_any _).mono ?_
            rintro e w99 ⟨rfl, hb⟩
            go_wp2_with fail
            go_ret
            exact ⟨rfl, H6.out.below.trans (hb.mono H6.out.below.size)⟩
        · skip
          cases hr : rectB s x y
          · skip
            have hE1 : E1 = 2 := by rw [HS1.out, hr]; rfl
            have hES : sureE s true = 0 := by rw [HS2.out, if_neg hL]
            rw [hES]
            have hv0 : VV = 0 := by rw [← HVV.out, verdV, if_neg (by rw [HE1.out, hE1]; decide)]
            have he2 : E2 = 2 := by rw [← HE2.out, showE, if_neg (by rw [HE1.out, hE1]; decide)]; exact HE1.out.trans hE1
            have hT0 : TT = zeroT := by rw [← HTT.out, showV]; exact if_neg (by rw [HE1.out, hE1]; decide)
            have hT1 : TT.a = 0 ∧ TT.b = 0 ∧ TT.half = 0 ∧ TT.peak = 0 := by rw [hT0]; exact ⟨rfl, rfl, rfl, rfl⟩
            rw [hT1.1, hT1.2.1, hT1.2.2.1, hT1.2.2.2] at HT
            clear hT0 hT1
            subst hv0
            rw [he2, hE1]
            clear he2
            have e0 := (StoAt.of H5.out.cell1).c0; have e1 := (StoAt.of H5.out.cell1).c1; have e2 := (StoAt.of H5.out.cell1).c2; have e3 := (StoAt.of H5.out.cell1).c3; have e4 := (StoAt.of H5.out.cell1).c4; have e5 := (StoAt.of H5.out.cell1).c5; have e6 := (StoAt.of H5.out.cell1).c6; have e7 := (StoAt.of H5.out.cell1).c7; have e8 := (StoAt.of H5.out.cell1).c8; have e9 := (StoAt.of H5.out.cell1).c9; have e10 := (StoAt.of H5.out.cell1).c10; have e11 := (StoAt.of H5.out.cell1).c11
            have d0 := (RecAt.of H5.out.cell2).c0; have d1 := (RecAt.of H5.out.cell2).c1; have d2 := (RecAt.of H5.out.cell2).c2; have d3 := (RecAt.of H5.out.cell2).c3
            go_wp2_with fail
            (with_reducible refine (isRect_any s p n c x y _ (by omega) (by omega) (by omega) (by omega)).mono ?_)
            rintro e w6 ⟨rfl, hb⟩
            rw [hr]
            have H6 := hid (H5.out.step (hb.mono (by have := H5.out.size; omega)))
            replace HT := hid (HT.out.below hb)
            replace HRL := hid (HRL.out.below hb)
            clear e0 e1 e2 e3 e4 e5 e6 e7 e8 e9 e10 e11 hb d0 d1 d2 d3
            have x0 := (HT.out.2 0 (.int .i64 0) rfl).1; have x1 := (HT.out.2 1 (.int .i64 0) rfl).1; have x2 := (HT.out.2 2 (.int .i64 0) rfl).1; have x3 := (HT.out.2 3 (.int .i64 0) rfl).1
            go_wp2_with fail
            refine (awake_any _).mono ?_
            rintro e w99 ⟨rfl, hb⟩
            go_wp2_with fail
            go_ret
            exact ⟨rfl, H6.out.below.trans (hb.mono H6.out.below.size)⟩
          · skip
            have hE1 : E1 = 0 := by rw [HS1.out, hr]; simp [hL]
            have hES : sureE s true = 0 := by rw [HS2.out, if_neg hL]
            rw [hES]
            rw [hE1]
            have e0 := (StoAt.of H5.out.cell1).c0; have e1 := (StoAt.of H5.out.cell1).c1; have e2 := (StoAt.of H5.out.cell1).c2; have e3 := (StoAt.of H5.out.cell1).c3; have e4 := (StoAt.of H5.out.cell1).c4; have e5 := (StoAt.of H5.out.cell1).c5; have e6 := (StoAt.of H5.out.cell1).c6; have e7 := (StoAt.of H5.out.cell1).c7; have e8 := (StoAt.of H5.out.cell1).c8; have e9 := (StoAt.of H5.out.cell1).c9; have e10 := (StoAt.of H5.out.cell1).c10; have e11 := (StoAt.of H5.out.cell1).c11
            have d0 := (RecAt.of H5.out.cell2).c0; have d1 := (RecAt.of H5.out.cell2).c1; have d2 := (RecAt.of H5.out.cell2).c2; have d3 := (RecAt.of H5.out.cell2).c3
            go_wp2_with fail
            (with_reducible refine (isRect_any s p n c x y _ (by omega) (by omega) (by omega) (by omega)).mono ?_)
            rintro e w6 ⟨rfl, hb⟩
            rw [hr]
            have H6 := hid (H5.out.step (hb.mono (by have := H5.out.size; omega)))
            replace HT := hid (HT.out.below hb)
            replace HRL := hid (HRL.out.below hb)
            clear e0 e1 e2 e3 e4 e5 e6 e7 e8 e9 e10 e11 hb d0 d1 d2 d3
            have HLL := hid hL
            have HSR : Hid (sureR s = truR s) := by show _ = _; rw [sureR, if_pos hES]
            rw [HSR.out] at HRL ⊢
            obtain ⟨N, hNN⟩ : ∃ N, (truR s).length = N := ⟨_, rfl⟩
            have HNL : Hid (N ≤ 100000) := hid (by have := truR_len HOK.out; omega)
            have HNE := hid hNN
            rw [hNN] at HRL ⊢
            clear hNN
            have HSM := hid (truR_small2 HOK.out)
            have HSS := hid HOK.out.small
            have HSQ : Hid (SmallQ x y) := hid (by have h := hr; rw [rectB, Bool.and_eq_true, Rng.of_iff, Rng.of_iff] at h; constructor <;> omega)
            have HVT : Hid (verdT s (truR s) x y = VV) := by show _ = _; rw [verd_perm HOK.out, ← HVV.out, verdV, if_pos (HE1.out.trans hE1)]
            have HF1 : Hid (((truthL s).find? fun t => hitsB s t x y inn) = none ∧ E2 = 7 ∧ TT = zeroT ∨ ((truthL s).find? fun t => hitsB s t x y inn) = some TT ∧ E2 = 0) := hid (by
              cases hf : (truthL s).find? fun t => hitsB s t x y inn with
              | none => exact .inl ⟨rfl, by rw [← HE2.out, showE, if_pos (HE1.out.trans hE1), hf], by rw [← HTT.out, showV, if_pos (HE1.out.trans hE1), hf]; rfl⟩
              | some u => exact .inr ⟨by rw [← HTT.out, showV, if_pos (HE1.out.trans hE1), hf]; rfl, by rw [← HE2.out, showE, if_pos (HE1.out.trans hE1), hf]⟩)
            clear hES hE1 hr hL
            have e0 := (StoAt.of H6.out.cell1).c0; have e1 := (StoAt.of H6.out.cell1).c1; have e2 := (StoAt.of H6.out.cell1).c2; have e3 := (StoAt.of H6.out.cell1).c3; have e4 := (StoAt.of H6.out.cell1).c4; have e5 := (StoAt.of H6.out.cell1).c5; have e6 := (StoAt.of H6.out.cell1).c6; have e7 := (StoAt.of H6.out.cell1).c7; have e8 := (StoAt.of H6.out.cell1).c8; have e9 := (StoAt.of H6.out.cell1).c9; have e10 := (StoAt.of H6.out.cell1).c10; have e11 := (StoAt.of H6.out.cell1).c11
            have d0 := (RecAt.of H6.out.cell2).c0; have d1 := (RecAt.of H6.out.cell2).c1; have d2 := (RecAt.of H6.out.cell2).c2; have d3 := (RecAt.of H6.out.cell2).c3
            go_wp2_with fail
            (with_reducible refine (verdR_any s p n c ql N dl (truR s) x y _ HRL.out HNL.out HSS.out HSM.out HSQ.out).mono ?_)
            rintro e w7 ⟨rfl, hb⟩
            rw [HVT.out]
            have H7 := hid (H6.out.step (hb.mono (by have := H6.out.size; omega)))
            replace HT := hid (HT.out.below hb)
            replace HRL := hid (HRL.out.below hb)
            clear e0 e1 e2 e3 e4 e5 e6 e7 e8 e9 e10 e11 hb d0 d1 d2 d3
            have HAN := hid (any_find HOK.out fun t => hitsB s t x y inn)
            obtain ⟨IS, hIS⟩ : ∃ v, ((truR s).any fun t => hitsB s t x y inn) = v := ⟨_, rfl⟩
            have HIS := hid hIS
            rw [hIS] at HAN
            clear hIS
            cases inn
            · skip
              go_wp2_with fail
              go_loopw [13, 14] (fun u j wr => ∃ (i : Nat) (b : Bool), i ≤ N ∧ u = .bool b ∧ j = .int .i64 i ∧ (b || ((truR s).drop i).any (fun t => hitsB s t x y false)) = IS ∧ Boxed2 w #[.int .i64 s.wide, .int .i64 s.high, .int .i64 s.fall, .int .i64 s.a.lo, .int .i64 s.a.hi, .int .i64 s.b.lo, .int .i64 s.b.hi, .int .i64 s.half.lo, .int .i64 s.half.hi, .int .i64 s.peak.lo, .int .i64 s.peak.hi, .slice p n c] 26 #[.int .i64 x.lo, .int .i64 x.hi, .int .i64 y.lo, .int .i64 y.hi] 64 wr ∧ Below w7.heap.size w7 wr) (fun _ j _ => N - (intOf j).toNat)
              case atStart => exact ⟨0, false, by omega, rfl, rfl, HIS.out, H7.out, Below.refl _ _⟩
              case round =>
                obtain ⟨i, b, hi, rfl, rfl, hr, hw, hbw⟩ := hrel
                have HW := hid hw; have HR := hid hr; have HBW := hid hbw
                clear hr hw hbw
                by_cases hlt : i < N
                · obtain ⟨t, ht, b1, o1, e1, hlt1, hc⟩ := (HRL.out.below HBW.out).at hlt
                  cases e1
                  have hN1 := HNL.out
                  have HTS := hid (HSM.out t (List.mem_of_getElem? ht))
                  have HCT : Hid (∀ V, Below wr.heap.size wr V → V.cell? ⟨b1, o1 + i * 4, none⟩ = some (.int .i64 t.a) ∧ V.cell? ⟨b1, o1 + i * 4 + 1, none⟩ = some (.int .i64 t.b) ∧ V.cell? ⟨b1, o1 + i * 4 + 2, none⟩ = some (.int .i64 t.half) ∧ V.cell? ⟨b1, o1 + i * 4 + 3, none⟩ = some (.int .i64 t.peak)) := fun V hV => by
                    have kk : ∀ (a : Addr) (v : Value), wr.cell? a = some v → V.cell? a = some v := fun a v h => (hV.cell (World.block_lt_of_cell? _ _ h)).trans h
                    exact ⟨kk _ _ (hc 0 _ rfl), kk _ _ (hc 1 _ rfl), kk _ _ (hc 2 _ rfl), kk _ _ (hc 3 _ rfl)⟩
                  have HN1 : Hid (((b || hitsB s t x y false) || ((truR s).drop (i + 1)).any (fun t => hitsB s t x y false)) = IS) := by show _ = _; rw [← HR.out, drop_at' ht, List.any_cons, Bool.or_assoc]
                  clear ht hc
                  go_wp2_with fail
                  refine wp_region_held_drew (S := fun V => Boxed2 w #[.int .i64 s.wide, .int .i64 s.high, .int .i64 s.fall, .int .i64 s.a.lo, .int .i64 s.a.hi, .int .i64 s.b.lo, .int .i64 s.b.hi, .int .i64 s.half.lo, .int .i64 s.half.hi, .int .i64 s.peak.lo, .int .i64 s.peak.hi, .slice p n c] 26 #[.int .i64 x.lo, .int .i64 x.hi, .int .i64 y.lo, .int .i64 y.hi] 64 V ∧ Below wr.heap.size wr V) (by kernel_rfl) (⟨HW.out.drew, (Below.refl _ _).drew⟩) (fun hS => ?_)
                  simp only [List.size_toArray, List.length_cons, List.length_nil, Nat.reduceAdd, Array.replicate_succ, Array.replicate_zero, List.push_toArray, List.nil_append, List.cons_append]
                  refine wpAnyH_take (i := 0) (v := ?_) rfl (by kernel_rfl) (by kernel_rfl) (by kernel_rfl) (fun _ _ _ h => h) (Or.inl ⟨by rfl, fun V hV => ?_⟩) (by assumption) ?_
                  rotate_left
                  · have e0 := (StoAt.of hV.1.cell1).c0; have e1 := (StoAt.of hV.1.cell1).c1; have e2 := (StoAt.of hV.1.cell1).c2; have e3 := (StoAt.of hV.1.cell1).c3; have e4 := (StoAt.of hV.1.cell1).c4; have e5 := (StoAt.of hV.1.cell1).c5; have e6 := (StoAt.of hV.1.cell1).c6; have e7 := (StoAt.of hV.1.cell1).c7; have e8 := (StoAt.of hV.1.cell1).c8; have e9 := (StoAt.of hV.1.cell1).c9; have e10 := (StoAt.of hV.1.cell1).c10; have e11 := (StoAt.of hV.1.cell1).c11; go_simp
                    try with_reducible rfl
                  try simp only [Act.put, List.getElem_toArray, List.getElem_cons_zero, List.setIfInBounds_toArray, List.set_cons_zero, List.set_cons_succ]
                  refine wpAnyH_take (i := 1) (v := ?_) rfl (by kernel_rfl) (by kernel_rfl) (by kernel_rfl) (fun _ _ _ h => h) (Or.inl ⟨by rfl, fun V hV => ?_⟩) (by assumption) ?_
                  rotate_left
                  · go_simp
                    try with_reducible rfl
                  try simp only [Act.put, List.getElem_toArray, List.getElem_cons_zero, List.getElem_cons_succ, List.setIfInBounds_toArray, List.set_cons_zero, List.set_cons_succ]
                  refine wpAnyH_take (i := 2) (v := ?_) rfl (by kernel_rfl) (by kernel_rfl) (by kernel_rfl) (fun _ _ _ h => h) (Or.inl ⟨by rfl, fun V hV => ?_⟩) (by assumption) ?_
                  rotate_left
                  · go_simp
                    try with_reducible rfl
                  try simp only [Act.put, List.getElem_toArray, List.getElem_cons_zero, List.getElem_cons_succ, List.setIfInBounds_toArray, List.set_cons_zero, List.set_cons_succ]
                  refine wpAnyH_take (i := 3) (v := ?_) rfl (by kernel_rfl) (by kernel_rfl) (by kernel_rfl) (fun _ _ _ h => h) (Or.inl ⟨by rfl, fun V hV => ?_⟩) (by assumption) ?_
                  rotate_left
                  · go_simp
                    try with_reducible rfl
                  try simp only [Act.put, List.getElem_toArray, List.getElem_cons_zero, List.getElem_cons_succ, List.setIfInBounds_toArray, List.set_cons_zero, List.set_cons_succ]
                  refine wpAnyH_take (i := 4) (v := ?_) rfl (by kernel_rfl) (by kernel_rfl) (by kernel_rfl) (fun _ _ _ h => h) (Or.inl ⟨by rfl, fun V hV => ?_⟩) (by assumption) ?_
                  rotate_left
                  · have ⟨d0, d1, d2, d3⟩ := HCT.out V hV.2; go_simp
                    try with_reducible rfl
                  try simp only [Act.put, List.getElem_toArray, List.getElem_cons_zero, List.getElem_cons_succ, List.setIfInBounds_toArray, List.set_cons_zero, List.set_cons_succ]
                  refine wpAnyH_take (i := 5) (v := ?_) rfl (by kernel_rfl) (by kernel_rfl) (by kernel_rfl) (fun _ _ _ h => h) (Or.inl ⟨by rfl, fun V hV => ?_⟩) (by assumption) ?_
                  rotate_left
                  · have d0 := (RecAt.of hV.1.cell2).c0; have d1 := (RecAt.of hV.1.cell2).c1; have d2 := (RecAt.of hV.1.cell2).c2; have d3 := (RecAt.of hV.1.cell2).c3; go_simp
                    try with_reducible rfl
                  try simp only [Act.put, List.getElem_toArray, List.getElem_cons_zero, List.getElem_cons_succ, List.setIfInBounds_toArray, List.set_cons_zero, List.set_cons_succ]
                  refine wpAnyH_ready (rs := [6]) (by kernel_rfl) (by simp) ?_
                  refine AllReadyH.cons (o := _) rfl (fun K hK => ?_) AllReadyH.nil
                  go_simp
                  (with_reducible refine (places_any s p n c t x y _ HSS.out HTS.out HSQ.out).mono ?_)
                  rintro e w77 ⟨rfl, hb⟩
                  refine hK.out _ _ (⟨hS.1.step (hb.mono (by have := hS.1.size; omega)), hS.2.trans (hb.mono hS.2.size)⟩) (fun hS => ?_)
                  clear hK K
                  try simp only [List.setIfInBounds_toArray, List.set_cons_zero, List.set_cons_succ]
                  refine wpAnyH_take (i := 7) (v := ?_) rfl (by kernel_rfl) (by kernel_rfl) (by kernel_rfl) (fun _ _ _ h => h) (Or.inl ⟨by rfl, fun V hV => ?_⟩) (by assumption) ?_
                  rotate_left
                  · go_simp
                    try with_reducible rfl
                  try simp only [Act.put, List.getElem_toArray, List.getElem_cons_zero, List.getElem_cons_succ, List.setIfInBounds_toArray, List.set_cons_zero, List.set_cons_succ]
                  refine wpAnyH_take (i := 8) (v := ?_) rfl (by kernel_rfl) (by kernel_rfl) (by kernel_rfl) (fun _ _ _ h => h) (Or.inl ⟨by rfl, fun V hV => ?_⟩) (by assumption) ?_
                  rotate_left
                  · go_simp
                    try with_reducible rfl
                  try simp only [Act.put, List.getElem_toArray, List.getElem_cons_zero, List.getElem_cons_succ, List.setIfInBounds_toArray, List.set_cons_zero, List.set_cons_succ]
                  refine wpAnyH_take (i := 9) (v := ?_) rfl (by kernel_rfl) (by kernel_rfl) (by kernel_rfl) (fun _ _ _ h => h) (Or.inl ⟨by rfl, fun V hV => ?_⟩) (by assumption) ?_
                  rotate_left
                  · go_simp
                    try with_reducible rfl
                  try simp only [Act.put, List.getElem_toArray, List.getElem_cons_zero, List.getElem_cons_succ, List.setIfInBounds_toArray, List.set_cons_zero, List.set_cons_succ]
                  refine wpAnyH_take (i := 10) (v := ?_) rfl (by kernel_rfl) (by kernel_rfl) (by kernel_rfl) (fun _ _ _ h => h) (Or.inl ⟨by rfl, fun V hV => ?_⟩) (by assumption) ?_
                  rotate_left
                  · go_simp
                    try with_reducible rfl
                  try simp only [Act.put, List.getElem_toArray, List.getElem_cons_zero, List.getElem_cons_succ, List.setIfInBounds_toArray, List.set_cons_zero, List.set_cons_succ]
                  refine wpAnyH_take (i := 11) (v := ?_) rfl (by kernel_rfl) (by kernel_rfl) (by kernel_rfl) (fun _ _ _ h => h) (Or.inl ⟨by rfl, fun V hV => ?_⟩) (by assumption) ?_
                  rotate_left
                  · go_simp
                    try with_reducible rfl
                  try simp only [Act.put, List.getElem_toArray, List.getElem_cons_zero, List.getElem_cons_succ, List.setIfInBounds_toArray, List.set_cons_zero, List.set_cons_succ]
                  refine wpAnyH_done (by kernel_rfl) ?_ _
                  have HW7 := hid hS.1; have HBX := hid (HBW.out.trans (hS.2.mono HBW.out.size))
                  clear hS
                  obtain ⟨h1, hh1⟩ : ∃ v, hitsB s t x y true = v := ⟨_, rfl⟩
                  obtain ⟨h2, hh2⟩ : ∃ v, hitsB s t x y false = v := ⟨_, rfl⟩
                  rw [hh2] at HN1
                  rw [hh1, hh2]
                  clear hh1 hh2
                  cases b <;> cases h1 <;> cases h2
                  all_goals go_wp2_with fail; go_roundw
                  all_goals first | exact ⟨i + 1, _, by omega, rfl, by go_num, HN1.out, HW7.out, HBX.out⟩ | (simp [intOf]; omega)
                · have hd : (truR s).drop i = [] := List.drop_of_length_le (by have := HNE.out; omega)
                  have hbi : b = IS := by rw [← HR.out, hd]; simp
                  subst hbi
                  replace HT := hid (HT.out.below HBW.out)
                  clear hd HR
                  rcases HF1.out with ⟨hf, he2, ht0⟩ | ⟨hf, he2⟩
                  · have hb0 : b = false := by rw [HAN.out, hf]; rfl
                    subst hb0
                    rw [he2]
                    have hT1 : TT.a = 0 ∧ TT.b = 0 ∧ TT.half = 0 ∧ TT.peak = 0 := by rw [ht0]; exact ⟨rfl, rfl, rfl, rfl⟩
                    rw [hT1.1, hT1.2.1, hT1.2.2.1, hT1.2.2.2] at HT
                    clear hT1 hf he2 ht0
                    have x0 := (HT.out.2 0 (.int .i64 0) rfl).1; have x1 := (HT.out.2 1 (.int .i64 0) rfl).1; have x2 := (HT.out.2 2 (.int .i64 0) rfl).1; have x3 := (HT.out.2 3 (.int .i64 0) rfl).1
                    go_wp2_with fail
                    refine (awake_any _).mono ?_
                    rintro e w99 ⟨rfl, hb⟩
                    go_wp2_with fail
                    go_ret
                    exact ⟨rfl, HW.out.below.trans (hb.mono HW.out.below.size)⟩
                  · have hb0 : b = true := by rw [HAN.out, hf]; rfl
                    subst hb0
                    rw [he2]
                    have HIT : Hid (isTruB s TT = true) := hid (isTru_iff.2 (List.mem_of_find?_eq_some hf))
                    have HHI : Hid (hitsB s TT x y false = true) := hid (by have := List.find?_some hf; exact this)
                    have HTS := hid (HOK.out.smallT (truth_in2 (List.mem_of_find?_eq_some hf)))
                    clear hf he2
                    go_upto_region 20 with fail
                    refine wp_region_held_drew (S := fun V => Boxed2 w #[.int .i64 s.wide, .int .i64 s.high, .int .i64 s.fall, .int .i64 s.a.lo, .int .i64 s.a.hi, .int .i64 s.b.lo, .int .i64 s.b.hi, .int .i64 s.half.lo, .int .i64 s.half.hi, .int .i64 s.peak.lo, .int .i64 s.peak.hi, .slice p n c] 26 #[.int .i64 x.lo, .int .i64 x.hi, .int .i64 y.lo, .int .i64 y.hi] 64 V ∧ Below wr.heap.size wr V) (by kernel_rfl) (⟨HW.out.drew, (Below.refl _ _).drew⟩) (fun hS => ?_)
                    simp only [List.size_toArray, List.length_cons, List.length_nil, Nat.reduceAdd, Array.replicate_succ, Array.replicate_zero, List.push_toArray, List.nil_append, List.cons_append]
                    refine wpAnyH_take (i := 0) (v := ?_) rfl (by kernel_rfl) (by kernel_rfl) (by kernel_rfl) (fun _ _ _ h => h) (Or.inl ⟨by rfl, fun V hV => ?_⟩) (by assumption) ?_
                    rotate_left
                    · go_simp
                      try with_reducible rfl
                    try simp only [Act.put, List.getElem_toArray, List.getElem_cons_zero, List.setIfInBounds_toArray, List.set_cons_zero, List.set_cons_succ]
                    refine wpAnyH_take (i := 1) (v := ?_) rfl (by kernel_rfl) (by kernel_rfl) (by kernel_rfl) (fun _ _ _ h => h) (Or.inl ⟨by rfl, fun V hV => ?_⟩) (by assumption) ?_
                    rotate_left
                    · go_simp
                      try with_reducible rfl
                    try simp only [Act.put, List.getElem_toArray, List.getElem_cons_zero, List.getElem_cons_succ, List.setIfInBounds_toArray, List.set_cons_zero, List.set_cons_succ]
                    refine wpAnyH_take (i := 2) (v := ?_) rfl (by kernel_rfl) (by kernel_rfl) (by kernel_rfl) (fun _ _ _ h => h) (Or.inl ⟨by rfl, fun V hV => ?_⟩) (by assumption) ?_
                    rotate_left
                    · go_simp
                      try with_reducible rfl
                    try simp only [Act.put, List.getElem_toArray, List.getElem_cons_zero, List.getElem_cons_succ, List.setIfInBounds_toArray, List.set_cons_zero, List.set_cons_succ]
                    refine wpAnyH_take (i := 3) (v := ?_) rfl (by kernel_rfl) (by kernel_rfl) (by kernel_rfl) (fun _ _ _ h => h) (Or.inl ⟨by rfl, fun V hV => ?_⟩) (by assumption) ?_
                    rotate_left
                    · have e0 := (StoAt.of hV.1.cell1).c0; have e1 := (StoAt.of hV.1.cell1).c1; have e2 := (StoAt.of hV.1.cell1).c2; have e3 := (StoAt.of hV.1.cell1).c3; have e4 := (StoAt.of hV.1.cell1).c4; have e5 := (StoAt.of hV.1.cell1).c5; have e6 := (StoAt.of hV.1.cell1).c6; have e7 := (StoAt.of hV.1.cell1).c7; have e8 := (StoAt.of hV.1.cell1).c8; have e9 := (StoAt.of hV.1.cell1).c9; have e10 := (StoAt.of hV.1.cell1).c10; have e11 := (StoAt.of hV.1.cell1).c11; go_simp
                      try with_reducible rfl
                    try simp only [Act.put, List.getElem_toArray, List.getElem_cons_zero, List.getElem_cons_succ, List.setIfInBounds_toArray, List.set_cons_zero, List.set_cons_succ]
                    refine wpAnyH_take (i := 4) (v := ?_) rfl (by kernel_rfl) (by kernel_rfl) (by kernel_rfl) (fun _ _ _ h => h) (Or.inl ⟨by rfl, fun V hV => ?_⟩) (by assumption) ?_
                    rotate_left
                    · have hX := HT.out.below hV.2; have x0 := (hX.2 0 (.int .i64 TT.a) rfl).1; have x1 := (hX.2 1 (.int .i64 TT.b) rfl).1; have x2 := (hX.2 2 (.int .i64 TT.half) rfl).1; have x3 := (hX.2 3 (.int .i64 TT.peak) rfl).1; go_simp
                      try with_reducible rfl
                    try simp only [Act.put, List.getElem_toArray, List.getElem_cons_zero, List.getElem_cons_succ, List.setIfInBounds_toArray, List.set_cons_zero, List.set_cons_succ]
                    refine wpAnyH_ready (rs := [5]) (by kernel_rfl) (by simp) ?_
                    refine AllReadyH.cons (o := _) rfl (fun K hK => ?_) AllReadyH.nil
                    go_simp
                    (with_reducible refine (back67_any TT _).mono ?_)
                    rintro e v5 ⟨rfl, hb⟩
                    refine hK.out _ _ (⟨hS.1.step (hb.mono (by have := hS.1.size; omega)), hS.2.trans (hb.mono hS.2.size)⟩) (fun hS => ?_)
                    clear hK K
                    try simp only [List.setIfInBounds_toArray, List.set_cons_zero, List.set_cons_succ]
                    refine wpAnyH_ready (rs := [6]) (by kernel_rfl) (by simp) ?_
                    refine AllReadyH.cons (o := _) rfl (fun K hK => ?_) AllReadyH.nil
                    go_simp
                    (with_reducible refine (isTruth_any s p n c TT _ (HC.out.below hS.1.below) HOK.out).mono ?_)
                    rintro e v6 ⟨rfl, hb⟩
                    rw [HIT.out]
                    refine hK.out _ _ (⟨hS.1.step (hb.mono (by have := hS.1.size; omega)), hS.2.trans (hb.mono hS.2.size)⟩) (fun hS => ?_)
                    clear hK K
                    try simp only [List.setIfInBounds_toArray, List.set_cons_zero, List.set_cons_succ]
                    refine wpAnyH_take (i := 7) (v := ?_) rfl (by kernel_rfl) (by kernel_rfl) (by kernel_rfl) (fun _ _ _ h => h) (Or.inl ⟨by rfl, fun V hV => ?_⟩) (by assumption) ?_
                    rotate_left
                    · go_simp
                      try with_reducible rfl
                    try simp only [Act.put, List.getElem_toArray, List.getElem_cons_zero, List.getElem_cons_succ, List.setIfInBounds_toArray, List.set_cons_zero, List.set_cons_succ]
                    refine wpAnyH_take (i := 8) (v := ?_) rfl (by kernel_rfl) (by kernel_rfl) (by kernel_rfl) (fun _ _ _ h => h) (Or.inl ⟨by rfl, fun V hV => ?_⟩) (by assumption) ?_
                    rotate_left
                    · go_simp
                      try with_reducible rfl
                    try simp only [Act.put, List.getElem_toArray, List.getElem_cons_zero, List.getElem_cons_succ, List.setIfInBounds_toArray, List.set_cons_zero, List.set_cons_succ]
                    refine wpAnyH_done (by kernel_rfl) ?_ _
                    have HV6 := hid hS.1; replace HT := hid (HT.out.below hS.2)
                    clear hS
                    go_upto_region 22 with fail
                    generalize v6 = V6 at HV6 HT ⊢
                    refine wp_region_held_drew (S := fun V => Boxed2 w #[.int .i64 s.wide, .int .i64 s.high, .int .i64 s.fall, .int .i64 s.a.lo, .int .i64 s.a.hi, .int .i64 s.b.lo, .int .i64 s.b.hi, .int .i64 s.half.lo, .int .i64 s.half.hi, .int .i64 s.peak.lo, .int .i64 s.peak.hi, .slice p n c] 26 #[.int .i64 x.lo, .int .i64 x.hi, .int .i64 y.lo, .int .i64 y.hi] 64 V ∧ Below V6.heap.size V6 V) (by kernel_rfl) (⟨HV6.out.drew, (Below.refl _ _).drew⟩) (fun hS => ?_)
                    simp only [List.size_toArray, List.length_cons, List.length_nil, Nat.reduceAdd, Array.replicate_succ, Array.replicate_zero, List.push_toArray, List.nil_append, List.cons_append]
                    refine wpAnyH_take (i := 0) (v := ?_) rfl (by kernel_rfl) (by kernel_rfl) (by kernel_rfl) (fun _ _ _ h => h) (Or.inl ⟨by rfl, fun V hV => ?_⟩) (by assumption) ?_
                    rotate_left
                    · have e0 := (StoAt.of hV.1.cell1).c0; have e1 := (StoAt.of hV.1.cell1).c1; have e2 := (StoAt.of hV.1.cell1).c2; have e3 := (StoAt.of hV.1.cell1).c3; have e4 := (StoAt.of hV.1.cell1).c4; have e5 := (StoAt.of hV.1.cell1).c5; have e6 := (StoAt.of hV.1.cell1).c6; have e7 := (StoAt.of hV.1.cell1).c7; have e8 := (StoAt.of hV.1.cell1).c8; have e9 := (StoAt.of hV.1.cell1).c9; have e10 := (StoAt.of hV.1.cell1).c10; have e11 := (StoAt.of hV.1.cell1).c11; go_simp
                      try with_reducible rfl
                    try simp only [Act.put, List.getElem_toArray, List.getElem_cons_zero, List.setIfInBounds_toArray, List.set_cons_zero, List.set_cons_succ]
                    refine wpAnyH_take (i := 1) (v := ?_) rfl (by kernel_rfl) (by kernel_rfl) (by kernel_rfl) (fun _ _ _ h => h) (Or.inl ⟨by rfl, fun V hV => ?_⟩) (by assumption) ?_
                    rotate_left
                    · have hX := HT.out.below hV.2; have x0 := (hX.2 0 (.int .i64 TT.a) rfl).1; have x1 := (hX.2 1 (.int .i64 TT.b) rfl).1; have x2 := (hX.2 2 (.int .i64 TT.half) rfl).1; have x3 := (hX.2 3 (.int .i64 TT.peak) rfl).1; go_simp
                      try with_reducible rfl
                    try simp only [Act.put, List.getElem_toArray, List.getElem_cons_zero, List.getElem_cons_succ, List.setIfInBounds_toArray, List.set_cons_zero, List.set_cons_succ]
                    refine wpAnyH_take (i := 3) (v := ?_) rfl (by kernel_rfl) (by kernel_rfl) (by kernel_rfl) (fun _ _ _ h => h) (Or.inl ⟨by rfl, fun V hV => ?_⟩) (by assumption) ?_
                    rotate_left
                    · have d0 := (RecAt.of hV.1.cell2).c0; have d1 := (RecAt.of hV.1.cell2).c1; have d2 := (RecAt.of hV.1.cell2).c2; have d3 := (RecAt.of hV.1.cell2).c3; go_simp
                      try with_reducible rfl
                    try simp only [Act.put, List.getElem_toArray, List.getElem_cons_zero, List.getElem_cons_succ, List.setIfInBounds_toArray, List.set_cons_zero, List.set_cons_succ]
                    refine wpAnyH_ready (rs := [2]) (by kernel_rfl) (by simp) ?_
                    refine AllReadyH.cons (o := _) rfl (fun K hK => ?_) AllReadyH.nil
                    go_simp
                    (with_reducible refine (back67_any TT _).mono ?_)
                    rintro e v5 ⟨rfl, hb⟩
                    refine hK.out _ _ (⟨hS.1.step (hb.mono (by have := hS.1.size; omega)), hS.2.trans (hb.mono hS.2.size)⟩) (fun hS => ?_)
                    clear hK K
                    try simp only [List.setIfInBounds_toArray, List.set_cons_zero, List.set_cons_succ]
                    refine wpAnyH_ready (rs := [4]) (by kernel_rfl) (by simp) ?_
                    refine AllReadyH.cons (o := _) rfl (fun K hK => ?_) AllReadyH.nil
                    go_simp
                    (with_reducible refine (places_any s p n c TT x y _ HSS.out HTS.out HSQ.out).mono ?_)
                    rintro e v6 ⟨rfl, hb⟩
                    rw [HHI.out]
                    refine hK.out _ _ (⟨hS.1.step (hb.mono (by have := hS.1.size; omega)), hS.2.trans (hb.mono hS.2.size)⟩) (fun hS => ?_)
                    clear hK K
                    try simp only [List.setIfInBounds_toArray, List.set_cons_zero, List.set_cons_succ]
                    refine wpAnyH_take (i := 5) (v := ?_) rfl (by kernel_rfl) (by kernel_rfl) (by kernel_rfl) (fun _ _ _ h => h) (Or.inl ⟨by rfl, fun V hV => ?_⟩) (by assumption) ?_
                    rotate_left
                    · go_simp
                      try with_reducible rfl
                    try simp only [Act.put, List.getElem_toArray, List.getElem_cons_zero, List.getElem_cons_succ, List.setIfInBounds_toArray, List.set_cons_zero, List.set_cons_succ]
                    refine wpAnyH_take (i := 6) (v := ?_) rfl (by kernel_rfl) (by kernel_rfl) (by kernel_rfl) (fun _ _ _ h => h) (Or.inl ⟨by rfl, fun V hV => ?_⟩) (by assumption) ?_
                    rotate_left
                    · go_simp
                      try with_reducible rfl
                    try simp only [Act.put, List.getElem_toArray, List.getElem_cons_zero, List.getElem_cons_succ, List.setIfInBounds_toArray, List.set_cons_zero, List.set_cons_succ]
                    refine wpAnyH_take (i := 7) (v := ?_) rfl (by kernel_rfl) (by kernel_rfl) (by kernel_rfl) (fun _ _ _ h => h) (Or.inl ⟨by rfl, fun V hV => ?_⟩) (by assumption) ?_
                    rotate_left
                    · go_simp
                      try with_reducible rfl
                    try simp only [Act.put, List.getElem_toArray, List.getElem_cons_zero, List.getElem_cons_succ, List.setIfInBounds_toArray, List.set_cons_zero, List.set_cons_succ]
                    refine wpAnyH_take (i := 8) (v := ?_) rfl (by kernel_rfl) (by kernel_rfl) (by kernel_rfl) (fun _ _ _ h => h) (Or.inl ⟨by rfl, fun V hV => ?_⟩) (by assumption) ?_
                    rotate_left
                    · go_simp
                      try with_reducible rfl
                    try simp only [Act.put, List.getElem_toArray, List.getElem_cons_zero, List.getElem_cons_succ, List.setIfInBounds_toArray, List.set_cons_zero, List.set_cons_succ]
                    refine wpAnyH_take (i := 9) (v := ?_) rfl (by kernel_rfl) (by kernel_rfl) (by kernel_rfl) (fun _ _ _ h => h) (Or.inl ⟨by rfl, fun V hV => ?_⟩) (by assumption) ?_
                    rotate_left
                    · go_simp
                      try with_reducible rfl
                    try simp only [Act.put, List.getElem_toArray, List.getElem_cons_zero, List.getElem_cons_succ, List.setIfInBounds_toArray, List.set_cons_zero, List.set_cons_succ]
                    refine wpAnyH_done (by kernel_rfl) ?_ _
                    have HV7 := hid hS.1
                    clear hS
                    cases hitsB s TT x y true
                    all_goals go_wp2_with fail
                    all_goals refine (awake_any _).mono ?_
                    all_goals rintro e w99 ⟨rfl, hb⟩
                    all_goals go_wp2_with fail
                    all_goals go_ret
                    all_goals exact ⟨rfl, HV7.out.below.trans (hb.mono HV7.out.below.size)⟩
            · skip
              go_wp2_with fail
              go_loopw [13, 14] (fun u j wr => ∃ (i : Nat) (b : Bool), i ≤ N ∧ u = .bool b ∧ j = .int .i64 i ∧ (b || ((truR s).drop i).any (fun t => hitsB s t x y true)) = IS ∧ Boxed2 w #[.int .i64 s.wide, .int .i64 s.high, .int .i64 s.fall, .int .i64 s.a.lo, .int .i64 s.a.hi, .int .i64 s.b.lo, .int .i64 s.b.hi, .int .i64 s.half.lo, .int .i64 s.half.hi, .int .i64 s.peak.lo, .int .i64 s.peak.hi, .slice p n c] 26 #[.int .i64 x.lo, .int .i64 x.hi, .int .i64 y.lo, .int .i64 y.hi] 64 wr ∧ Below w7.heap.size w7 wr) (fun _ j _ => N - (intOf j).toNat)
              case atStart => exact ⟨0, false, by omega, rfl, rfl, HIS.out, H7.out, Below.refl _ _⟩
              case round =>
                obtain ⟨i, b, hi, rfl, rfl, hr, hw, hbw⟩ := hrel
                have HW := hid hw; have HR := hid hr; have HBW := hid hbw
                clear hr hw hbw
                by_cases hlt : i < N
                · obtain ⟨t, ht, b1, o1, e1, hlt1, hc⟩ := (HRL.out.below HBW.out).at hlt
                  cases e1
                  have hN1 := HNL.out
                  have HTS := hid (HSM.out t (List.mem_of_getElem? ht))
                  have HCT : Hid (∀ V, Below wr.heap.size wr V → V.cell? ⟨b1, o1 + i * 4, none⟩ = some (.int .i64 t.a) ∧ V.cell? ⟨b1, o1 + i * 4 + 1, none⟩ = some (.int .i64 t.b) ∧ V.cell? ⟨b1, o1 + i * 4 + 2, none⟩ = some (.int .i64 t.half) ∧ V.cell? ⟨b1, o1 + i * 4 + 3, none⟩ = some (.int .i64 t.peak)) := fun V hV => by
                    have kk : ∀ (a : Addr) (v : Value), wr.cell? a = some v → V.cell? a = some v := fun a v h => (hV.cell (World.block_lt_of_cell? _ _ h)).trans h
                    exact ⟨kk _ _ (hc 0 _ rfl), kk _ _ (hc 1 _ rfl), kk _ _ (hc 2 _ rfl), kk _ _ (hc 3 _ rfl)⟩
                  have HN1 : Hid (((b || hitsB s t x y true) || ((truR s).drop (i + 1)).any (fun t => hitsB s t x y true)) = IS) := by show _ = _; rw [← HR.out, drop_at' ht, List.any_cons, Bool.or_assoc]
                  clear ht hc
                  go_wp2_with fail
                  refine wp_region_held_drew (S := fun V => Boxed2 w #[.int .i64 s.wide, .int .i64 s.high, .int .i64 s.fall, .int .i64 s.a.lo, .int .i64 s.a.hi, .int .i64 s.b.lo, .int .i64 s.b.hi, .int .i64 s.half.lo, .int .i64 s.half.hi, .int .i64 s.peak.lo, .int .i64 s.peak.hi, .slice p n c] 26 #[.int .i64 x.lo, .int .i64 x.hi, .int .i64 y.lo, .int .i64 y.hi] 64 V ∧ Below wr.heap.size wr V) (by kernel_rfl) (⟨HW.out.drew, (Below.refl _ _).drew⟩) (fun hS => ?_)
                  simp only [List.size_toArray, List.length_cons, List.length_nil, Nat.reduceAdd, Array.replicate_succ, Array.replicate_zero, List.push_toArray, List.nil_append, List.cons_append]
                  refine wpAnyH_take (i := 0) (v := ?_) rfl (by kernel_rfl) (by kernel_rfl) (by kernel_rfl) (fun _ _ _ h => h) (Or.inl ⟨by rfl, fun V hV => ?_⟩) (by assumption) ?_
                  rotate_left
                  · have e0 := (StoAt.of hV.1.cell1).c0; have e1 := (StoAt.of hV.1.cell1).c1; have e2 := (StoAt.of hV.1.cell1).c2; have e3 := (StoAt.of hV.1.cell1).c3; have e4 := (StoAt.of hV.1.cell1).c4; have e5 := (StoAt.of hV.1.cell1).c5; have e6 := (StoAt.of hV.1.cell1).c6; have e7 := (StoAt.of hV.1.cell1).c7; have e8 := (StoAt.of hV.1.cell1).c8; have e9 := (StoAt.of hV.1.cell1).c9; have e10 := (StoAt.of hV.1.cell1).c10; have e11 := (StoAt.of hV.1.cell1).c11; go_simp
                    try with_reducible rfl
                  try simp only [Act.put, List.getElem_toArray, List.getElem_cons_zero, List.setIfInBounds_toArray, List.set_cons_zero, List.set_cons_succ]
                  refine wpAnyH_take (i := 1) (v := ?_) rfl (by kernel_rfl) (by kernel_rfl) (by kernel_rfl) (fun _ _ _ h => h) (Or.inl ⟨by rfl, fun V hV => ?_⟩) (by assumption) ?_
                  rotate_left
                  · go_simp
                    try with_reducible rfl
                  try simp only [Act.put, List.getElem_toArray, List.getElem_cons_zero, List.getElem_cons_succ, List.setIfInBounds_toArray, List.set_cons_zero, List.set_cons_succ]
                  refine wpAnyH_take (i := 2) (v := ?_) rfl (by kernel_rfl) (by kernel_rfl) (by kernel_rfl) (fun _ _ _ h => h) (Or.inl ⟨by rfl, fun V hV => ?_⟩) (by assumption) ?_
                  rotate_left
                  · go_simp
                    try with_reducible rfl
                  try simp only [Act.put, List.getElem_toArray, List.getElem_cons_zero, List.getElem_cons_succ, List.setIfInBounds_toArray, List.set_cons_zero, List.set_cons_succ]
                  refine wpAnyH_take (i := 3) (v := ?_) rfl (by kernel_rfl) (by kernel_rfl) (by kernel_rfl) (fun _ _ _ h => h) (Or.inl ⟨by rfl, fun V hV => ?_⟩) (by assumption) ?_
                  rotate_left
                  · go_simp
                    try with_reducible rfl
                  try simp only [Act.put, List.getElem_toArray, List.getElem_cons_zero, List.getElem_cons_succ, List.setIfInBounds_toArray, List.set_cons_zero, List.set_cons_succ]
                  refine wpAnyH_take (i := 4) (v := ?_) rfl (by kernel_rfl) (by kernel_rfl) (by kernel_rfl) (fun _ _ _ h => h) (Or.inl ⟨by rfl, fun V hV => ?_⟩) (by assumption) ?_
                  rotate_left
                  · have ⟨d0, d1, d2, d3⟩ := HCT.out V hV.2; go_simp
                    try with_reducible rfl
                  try simp only [Act.put, List.getElem_toArray, List.getElem_cons_zero, List.getElem_cons_succ, List.setIfInBounds_toArray, List.set_cons_zero, List.set_cons_succ]
                  refine wpAnyH_take (i := 5) (v := ?_) rfl (by kernel_rfl) (by kernel_rfl) (by kernel_rfl) (fun _ _ _ h => h) (Or.inl ⟨by rfl, fun V hV => ?_⟩) (by assumption) ?_
                  rotate_left
                  · have d0 := (RecAt.of hV.1.cell2).c0; have d1 := (RecAt.of hV.1.cell2).c1; have d2 := (RecAt.of hV.1.cell2).c2; have d3 := (RecAt.of hV.1.cell2).c3; go_simp
                    try with_reducible rfl
                  try simp only [Act.put, List.getElem_toArray, List.getElem_cons_zero, List.getElem_cons_succ, List.setIfInBounds_toArray, List.set_cons_zero, List.set_cons_succ]
                  refine wpAnyH_ready (rs := [6]) (by kernel_rfl) (by simp) ?_
                  refine AllReadyH.cons (o := _) rfl (fun K hK => ?_) AllReadyH.nil
                  go_simp
                  (with_reducible refine (places_any s p n c t x y _ HSS.out HTS.out HSQ.out).mono ?_)
                  rintro e w77 ⟨rfl, hb⟩
                  refine hK.out _ _ (⟨hS.1.step (hb.mono (by have := hS.1.size; omega)), hS.2.trans (hb.mono hS.2.size)⟩) (fun hS => ?_)
                  clear hK K
                  try simp only [List.setIfInBounds_toArray, List.set_cons_zero, List.set_cons_succ]
                  refine wpAnyH_take (i := 7) (v := ?_) rfl (by kernel_rfl) (by kernel_rfl) (by kernel_rfl) (fun _ _ _ h => h) (Or.inl ⟨by rfl, fun V hV => ?_⟩) (by assumption) ?_
                  rotate_left
                  · go_simp
                    try with_reducible rfl
                  try simp only [Act.put, List.getElem_toArray, List.getElem_cons_zero, List.getElem_cons_succ, List.setIfInBounds_toArray, List.set_cons_zero, List.set_cons_succ]
                  refine wpAnyH_take (i := 8) (v := ?_) rfl (by kernel_rfl) (by kernel_rfl) (by kernel_rfl) (fun _ _ _ h => h) (Or.inl ⟨by rfl, fun V hV => ?_⟩) (by assumption) ?_
                  rotate_left
                  · go_simp
                    try with_reducible rfl
                  try simp only [Act.put, List.getElem_toArray, List.getElem_cons_zero, List.getElem_cons_succ, List.setIfInBounds_toArray, List.set_cons_zero, List.set_cons_succ]
                  refine wpAnyH_take (i := 9) (v := ?_) rfl (by kernel_rfl) (by kernel_rfl) (by kernel_rfl) (fun _ _ _ h => h) (Or.inl ⟨by rfl, fun V hV => ?_⟩) (by assumption) ?_
                  rotate_left
                  · go_simp
                    try with_reducible rfl
                  try simp only [Act.put, List.getElem_toArray, List.getElem_cons_zero, List.getElem_cons_succ, List.setIfInBounds_toArray, List.set_cons_zero, List.set_cons_succ]
                  refine wpAnyH_take (i := 10) (v := ?_) rfl (by kernel_rfl) (by kernel_rfl) (by kernel_rfl) (fun _ _ _ h => h) (Or.inl ⟨by rfl, fun V hV => ?_⟩) (by assumption) ?_
                  rotate_left
                  · go_simp
                    try with_reducible rfl
                  try simp only [Act.put, List.getElem_toArray, List.getElem_cons_zero, List.getElem_cons_succ, List.setIfInBounds_toArray, List.set_cons_zero, List.set_cons_succ]
                  refine wpAnyH_take (i := 11) (v := ?_) rfl (by kernel_rfl) (by kernel_rfl) (by kernel_rfl) (fun _ _ _ h => h) (Or.inl ⟨by rfl, fun V hV => ?_⟩) (by assumption) ?_
                  rotate_left
                  · go_simp
                    try with_reducible rfl
                  try simp only [Act.put, List.getElem_toArray, List.getElem_cons_zero, List.getElem_cons_succ, List.setIfInBounds_toArray, List.set_cons_zero, List.set_cons_succ]
                  refine wpAnyH_done (by kernel_rfl) ?_ _
                  have HW7 := hid hS.1; have HBX := hid (HBW.out.trans (hS.2.mono HBW.out.size))
                  clear hS
                  obtain ⟨h1, hh1⟩ : ∃ v, hitsB s t x y true = v := ⟨_, rfl⟩
                  obtain ⟨h2, hh2⟩ : ∃ v, hitsB s t x y false = v := ⟨_, rfl⟩
                  rw [hh1] at HN1
                  rw [hh1, hh2]
                  clear hh1 hh2
                  cases b <;> cases h1 <;> cases h2
                  all_goals go_wp2_with fail; go_roundw
                  all_goals first | exact ⟨i + 1, _, by omega, rfl, by go_num, HN1.out, HW7.out, HBX.out⟩ | (simp [intOf]; omega)
                · have hd : (truR s).drop i = [] := List.drop_of_length_le (by have := HNE.out; omega)
                  have hbi : b = IS := by rw [← HR.out, hd]; simp
                  subst hbi
                  replace HT := hid (HT.out.below HBW.out)
                  clear hd HR
                  rcases HF1.out with ⟨hf, he2, ht0⟩ | ⟨hf, he2⟩
                  · have hb0 : b = false := by rw [HAN.out, hf]; rfl
                    subst hb0
                    rw [he2]
                    have hT1 : TT.a = 0 ∧ TT.b = 0 ∧ TT.half = 0 ∧ TT.peak = 0 := by rw [ht0]; exact ⟨rfl, rfl, rfl, rfl⟩
                    rw [hT1.1, hT1.2.1, hT1.2.2.1, hT1.2.2.2] at HT
                    clear hT1 hf he2 ht0
                    have x0 := (HT.out.2 0 (.int .i64 0) rfl).1; have x1 := (HT.out.2 1 (.int .i64 0) rfl).1; have x2 := (HT.out.2 2 (.int .i64 0) rfl).1; have x3 := (HT.out.2 3 (.int .i64 0) rfl).1
                    go_wp2_with fail
                    refine (awake_any _).mono ?_
                    rintro e w99 ⟨rfl, hb⟩
                    go_wp2_with fail
                    go_ret
                    exact ⟨rfl, HW.out.below.trans (hb.mono HW.out.below.size)⟩
                  · have hb0 : b = true := by rw [HAN.out, hf]; rfl
                    subst hb0
                    rw [he2]
                    have HIT : Hid (isTruB s TT = true) := hid (isTru_iff.2 (List.mem_of_find?_eq_some hf))
                    have HHI : Hid (hitsB s TT x y true = true) := hid (by have := List.find?_some hf; exact this)
                    have HTS := hid (HOK.out.smallT (truth_in2 (List.mem_of_find?_eq_some hf)))
                    clear hf he2
                    go_upto_region 20 with fail
                    refine wp_region_held_drew (S := fun V => Boxed2 w #[.int .i64 s.wide, .int .i64 s.high, .int .i64 s.fall, .int .i64 s.a.lo, .int .i64 s.a.hi, .int .i64 s.b.lo, .int .i64 s.b.hi, .int .i64 s.half.lo, .int .i64 s.half.hi, .int .i64 s.peak.lo, .int .i64 s.peak.hi, .slice p n c] 26 #[.int .i64 x.lo, .int .i64 x.hi, .int .i64 y.lo, .int .i64 y.hi] 64 V ∧ Below wr.heap.size wr V) (by kernel_rfl) (⟨HW.out.drew, (Below.refl _ _).drew⟩) (fun hS => ?_)
                    simp only [List.size_toArray, List.length_cons, List.length_nil, Nat.reduceAdd, Array.replicate_succ, Array.replicate_zero, List.push_toArray, List.nil_append, List.cons_append]
                    refine wpAnyH_take (i := 0) (v := ?_) rfl (by kernel_rfl) (by kernel_rfl) (by kernel_rfl) (fun _ _ _ h => h) (Or.inl ⟨by rfl, fun V hV => ?_⟩) (by assumption) ?_
                    rotate_left
                    · go_simp
                      try with_reducible rfl
                    try simp only [Act.put, List.getElem_toArray, List.getElem_cons_zero, List.setIfInBounds_toArray, List.set_cons_zero, List.set_cons_succ]
                    refine wpAnyH_take (i := 1) (v := ?_) rfl (by kernel_rfl) (by kernel_rfl) (by kernel_rfl) (fun _ _ _ h => h) (Or.inl ⟨by rfl, fun V hV => ?_⟩) (by assumption) ?_
                    rotate_left
                    · go_simp
                      try with_reducible rfl
                    try simp only [Act.put, List.getElem_toArray, List.getElem_cons_zero, List.getElem_cons_succ, List.setIfInBounds_toArray, List.set_cons_zero, List.set_cons_succ]
                    refine wpAnyH_take (i := 2) (v := ?_) rfl (by kernel_rfl) (by kernel_rfl) (by kernel_rfl) (fun _ _ _ h => h) (Or.inl ⟨by rfl, fun V hV => ?_⟩) (by assumption) ?_
                    rotate_left
                    · go_simp
                      try with_reducible rfl
                    try simp only [Act.put, List.getElem_toArray, List.getElem_cons_zero, List.getElem_cons_succ, List.setIfInBounds_toArray, List.set_cons_zero, List.set_cons_succ]
                    refine wpAnyH_take (i := 3) (v := ?_) rfl (by kernel_rfl) (by kernel_rfl) (by kernel_rfl) (fun _ _ _ h => h) (Or.inl ⟨by rfl, fun V hV => ?_⟩) (by assumption) ?_
                    rotate_left
                    · have e0 := (StoAt.of hV.1.cell1).c0; have e1 := (StoAt.of hV.1.cell1).c1; have e2 := (StoAt.of hV.1.cell1).c2; have e3 := (StoAt.of hV.1.cell1).c3; have e4 := (StoAt.of hV.1.cell1).c4; have e5 := (StoAt.of hV.1.cell1).c5; have e6 := (StoAt.of hV.1.cell1).c6; have e7 := (StoAt.of hV.1.cell1).c7; have e8 := (StoAt.of hV.1.cell1).c8; have e9 := (StoAt.of hV.1.cell1).c9; have e10 := (StoAt.of hV.1.cell1).c10; have e11 := (StoAt.of hV.1.cell1).c11; go_simp
                      try with_reducible rfl
                    try simp only [Act.put, List.getElem_toArray, List.getElem_cons_zero, List.getElem_cons_succ, List.setIfInBounds_toArray, List.set_cons_zero, List.set_cons_succ]
                    refine wpAnyH_take (i := 4) (v := ?_) rfl (by kernel_rfl) (by kernel_rfl) (by kernel_rfl) (fun _ _ _ h => h) (Or.inl ⟨by rfl, fun V hV => ?_⟩) (by assumption) ?_
                    rotate_left
                    · have hX := HT.out.below hV.2; have x0 := (hX.2 0 (.int .i64 TT.a) rfl).1; have x1 := (hX.2 1 (.int .i64 TT.b) rfl).1; have x2 := (hX.2 2 (.int .i64 TT.half) rfl).1; have x3 := (hX.2 3 (.int .i64 TT.peak) rfl).1; go_simp
                      try with_reducible rfl
                    try simp only [Act.put, List.getElem_toArray, List.getElem_cons_zero, List.getElem_cons_succ, List.setIfInBounds_toArray, List.set_cons_zero, List.set_cons_succ]
                    refine wpAnyH_ready (rs := [5]) (by kernel_rfl) (by simp) ?_
                    refine AllReadyH.cons (o := _) rfl (fun K hK => ?_) AllReadyH.nil
                    go_simp
                    (with_reducible refine (back67_any TT _).mono ?_)
                    rintro e v5 ⟨rfl, hb⟩
                    refine hK.out _ _ (⟨hS.1.step (hb.mono (by have := hS.1.size; omega)), hS.2.trans (hb.mono hS.2.size)⟩) (fun hS => ?_)
                    clear hK K
                    try simp only [List.setIfInBounds_toArray, List.set_cons_zero, List.set_cons_succ]
                    refine wpAnyH_ready (rs := [6]) (by kernel_rfl) (by simp) ?_
                    refine AllReadyH.cons (o := _) rfl (fun K hK => ?_) AllReadyH.nil
                    go_simp
                    (with_reducible refine (isTruth_any s p n c TT _ (HC.out.below hS.1.below) HOK.out).mono ?_)
                    rintro e v6 ⟨rfl, hb⟩
                    rw [HIT.out]
                    refine hK.out _ _ (⟨hS.1.step (hb.mono (by have := hS.1.size; omega)), hS.2.trans (hb.mono hS.2.size)⟩) (fun hS => ?_)
                    clear hK K
                    try simp only [List.setIfInBounds_toArray, List.set_cons_zero, List.set_cons_succ]
                    refine wpAnyH_take (i := 7) (v := ?_) rfl (by kernel_rfl) (by kernel_rfl) (by kernel_rfl) (fun _ _ _ h => h) (Or.inl ⟨by rfl, fun V hV => ?_⟩) (by assumption) ?_
                    rotate_left
                    · go_simp
                      try with_reducible rfl
                    try simp only [Act.put, List.getElem_toArray, List.getElem_cons_zero, List.getElem_cons_succ, List.setIfInBounds_toArray, List.set_cons_zero, List.set_cons_succ]
                    refine wpAnyH_take (i := 8) (v := ?_) rfl (by kernel_rfl) (by kernel_rfl) (by kernel_rfl) (fun _ _ _ h => h) (Or.inl ⟨by rfl, fun V hV => ?_⟩) (by assumption) ?_
                    rotate_left
                    · go_simp
                      try with_reducible rfl
                    try simp only [Act.put, List.getElem_toArray, List.getElem_cons_zero, List.getElem_cons_succ, List.setIfInBounds_toArray, List.set_cons_zero, List.set_cons_succ]
                    refine wpAnyH_done (by kernel_rfl) ?_ _
                    have HV6 := hid hS.1; replace HT := hid (HT.out.below hS.2)
                    clear hS
                    go_upto_region 22 with fail
                    generalize v6 = V6 at HV6 HT ⊢
                    refine wp_region_held_drew (S := fun V => Boxed2 w #[.int .i64 s.wide, .int .i64 s.high, .int .i64 s.fall, .int .i64 s.a.lo, .int .i64 s.a.hi, .int .i64 s.b.lo, .int .i64 s.b.hi, .int .i64 s.half.lo, .int .i64 s.half.hi, .int .i64 s.peak.lo, .int .i64 s.peak.hi, .slice p n c] 26 #[.int .i64 x.lo, .int .i64 x.hi, .int .i64 y.lo, .int .i64 y.hi] 64 V ∧ Below V6.heap.size V6 V) (by kernel_rfl) (⟨HV6.out.drew, (Below.refl _ _).drew⟩) (fun hS => ?_)
                    simp only [List.size_toArray, List.length_cons, List.length_nil, Nat.reduceAdd, Array.replicate_succ, Array.replicate_zero, List.push_toArray, List.nil_append, List.cons_append]
                    refine wpAnyH_take (i := 0) (v := ?_) rfl (by kernel_rfl) (by kernel_rfl) (by kernel_rfl) (fun _ _ _ h => h) (Or.inl ⟨by rfl, fun V hV => ?_⟩) (by assumption) ?_
                    rotate_left
                    · have e0 := (StoAt.of hV.1.cell1).c0; have e1 := (StoAt.of hV.1.cell1).c1; have e2 := (StoAt.of hV.1.cell1).c2; have e3 := (StoAt.of hV.1.cell1).c3; have e4 := (StoAt.of hV.1.cell1).c4; have e5 := (StoAt.of hV.1.cell1).c5; have e6 := (StoAt.of hV.1.cell1).c6; have e7 := (StoAt.of hV.1.cell1).c7; have e8 := (StoAt.of hV.1.cell1).c8; have e9 := (StoAt.of hV.1.cell1).c9; have e10 := (StoAt.of hV.1.cell1).c10; have e11 := (StoAt.of hV.1.cell1).c11; go_simp
                      try with_reducible rfl
                    try simp only [Act.put, List.getElem_toArray, List.getElem_cons_zero, List.setIfInBounds_toArray, List.set_cons_zero, List.set_cons_succ]
                    refine wpAnyH_take (i := 1) (v := ?_) rfl (by kernel_rfl) (by kernel_rfl) (by kernel_rfl) (fun _ _ _ h => h) (Or.inl ⟨by rfl, fun V hV => ?_⟩) (by assumption) ?_
                    rotate_left
                    · have hX := HT.out.below hV.2; have x0 := (hX.2 0 (.int .i64 TT.a) rfl).1; have x1 := (hX.2 1 (.int .i64 TT.b) rfl).1; have x2 := (hX.2 2 (.int .i64 TT.half) rfl).1; have x3 := (hX.2 3 (.int .i64 TT.peak) rfl).1; go_simp
                      try with_reducible rfl
                    try simp only [Act.put, List.getElem_toArray, List.getElem_cons_zero, List.getElem_cons_succ, List.setIfInBounds_toArray, List.set_cons_zero, List.set_cons_succ]
                    refine wpAnyH_take (i := 3) (v := ?_) rfl (by kernel_rfl) (by kernel_rfl) (by kernel_rfl) (fun _ _ _ h => h) (Or.inl ⟨by rfl, fun V hV => ?_⟩) (by assumption) ?_
                    rotate_left
                    · have d0 := (RecAt.of hV.1.cell2).c0; have d1 := (RecAt.of hV.1.cell2).c1; have d2 := (RecAt.of hV.1.cell2).c2; have d3 := (RecAt.of hV.1.cell2).c3; go_simp
                      try with_reducible rfl
                    try simp only [Act.put, List.getElem_toArray, List.getElem_cons_zero, List.getElem_cons_succ, List.setIfInBounds_toArray, List.set_cons_zero, List.set_cons_succ]
                    refine wpAnyH_ready (rs := [2]) (by kernel_rfl) (by simp) ?_
                    refine AllReadyH.cons (o := _) rfl (fun K hK => ?_) AllReadyH.nil
                    go_simp
                    (with_reducible refine (back67_any TT _).mono ?_)
                    rintro e v5 ⟨rfl, hb⟩
                    refine hK.out _ _ (⟨hS.1.step (hb.mono (by have := hS.1.size; omega)), hS.2.trans (hb.mono hS.2.size)⟩) (fun hS => ?_)
                    clear hK K
                    try simp only [List.setIfInBounds_toArray, List.set_cons_zero, List.set_cons_succ]
                    refine wpAnyH_ready (rs := [4]) (by kernel_rfl) (by simp) ?_
                    refine AllReadyH.cons (o := _) rfl (fun K hK => ?_) AllReadyH.nil
                    go_simp
                    (with_reducible refine (places_any s p n c TT x y _ HSS.out HTS.out HSQ.out).mono ?_)
                    rintro e v6 ⟨rfl, hb⟩
                    rw [HHI.out]
                    refine hK.out _ _ (⟨hS.1.step (hb.mono (by have := hS.1.size; omega)), hS.2.trans (hb.mono hS.2.size)⟩) (fun hS => ?_)
                    clear hK K
                    try simp only [List.setIfInBounds_toArray, List.set_cons_zero, List.set_cons_succ]
                    refine wpAnyH_take (i := 5) (v := ?_) rfl (by kernel_rfl) (by kernel_rfl) (by kernel_rfl) (fun _ _ _ h => h) (Or.inl ⟨by rfl, fun V hV => ?_⟩) (by assumption) ?_
                    rotate_left
                    · go_simp
                      try with_reducible rfl
                    try simp only [Act.put, List.getElem_toArray, List.getElem_cons_zero, List.getElem_cons_succ, List.setIfInBounds_toArray, List.set_cons_zero, List.set_cons_succ]
                    refine wpAnyH_take (i := 6) (v := ?_) rfl (by kernel_rfl) (by kernel_rfl) (by kernel_rfl) (fun _ _ _ h => h) (Or.inl ⟨by rfl, fun V hV => ?_⟩) (by assumption) ?_
                    rotate_left
                    · go_simp
                      try with_reducible rfl
                    try simp only [Act.put, List.getElem_toArray, List.getElem_cons_zero, List.getElem_cons_succ, List.setIfInBounds_toArray, List.set_cons_zero, List.set_cons_succ]
                    refine wpAnyH_take (i := 7) (v := ?_) rfl (by kernel_rfl) (by kernel_rfl) (by kernel_rfl) (fun _ _ _ h => h) (Or.inl ⟨by rfl, fun V hV => ?_⟩) (by assumption) ?_
                    rotate_left
                    · go_simp
                      try with_reducible rfl
                    try simp only [Act.put, List.getElem_toArray, List.getElem_cons_zero, List.getElem_cons_succ, List.setIfInBounds_toArray, List.set_cons_zero, List.set_cons_succ]
                    refine wpAnyH_take (i := 8) (v := ?_) rfl (by kernel_rfl) (by kernel_rfl) (by kernel_rfl) (fun _ _ _ h => h) (Or.inl ⟨by rfl, fun V hV => ?_⟩) (by assumption) ?_
                    rotate_left
                    · go_simp
                      try with_reducible rfl
                    try simp only [Act.put, List.getElem_toArray, List.getElem_cons_zero, List.getElem_cons_succ, List.setIfInBounds_toArray, List.set_cons_zero, List.set_cons_succ]
                    refine wpAnyH_take (i := 9) (v := ?_) rfl (by kernel_rfl) (by kernel_rfl) (by kernel_rfl) (fun _ _ _ h => h) (Or.inl ⟨by rfl, fun V hV => ?_⟩) (by assumption) ?_
                    rotate_left
                    · go_simp
                      try with_reducible rfl
                    try simp only [Act.put, List.getElem_toArray, List.getElem_cons_zero, List.getElem_cons_succ, List.setIfInBounds_toArray, List.set_cons_zero, List.set_cons_succ]
                    refine wpAnyH_done (by kernel_rfl) ?_ _
                    have HV7 := hid hS.1
                    clear hS
                    go_wp2_with fail
                    refine (awake_any _).mono ?_
                    rintro e w99 ⟨rfl, hb⟩
                    go_wp2_with fail
                    go_ret
                    exact ⟨rfl, HV7.out.below.trans (hb.mono HV7.out.below.size)⟩
      · have hES : sureE s true = faultS s := by rw [sureE, if_neg hF]
        have hE1 : E1 = faultS s := by rw [← HE1.out, sureE, if_neg hF]
        rw [hES]
        obtain ⟨F, hFF⟩ : ∃ F, faultS s = F := ⟨_, rfl⟩
        rw [hFF] at hF hE1 ⊢
        have hv0 : VV = 0 := by rw [← HVV.out, verdV, if_neg (by rw [HE1.out, hE1]; exact hF)]
        have he2 : E2 = F := by rw [← HE2.out, showE, if_neg (by rw [HE1.out, hE1]; exact hF)]; exact HE1.out.trans hE1
        have hT0 : TT = zeroT := by rw [← HTT.out, showV]; exact if_neg (by rw [HE1.out, hE1]; exact hF)
        have hT1 : TT.a = 0 ∧ TT.b = 0 ∧ TT.half = 0 ∧ TT.peak = 0 := by rw [hT0]; exact ⟨rfl, rfl, rfl, rfl⟩
        rw [hT1.1, hT1.2.1, hT1.2.2.1, hT1.2.2.2] at HT
        clear hT0 hT1
        subst hv0
        rw [he2, hE1]
        clear he2
        have hF1 : (F == 0) = false := by simpa using hF
        have hF2 : (F != 0) = true := by simpa using hF
        clear hFF hE1 hES
        have x0 := (HT.out.2 0 (.int .i64 0) rfl).1; have x1 := (HT.out.2 1 (.int .i64 0) rfl).1; have x2 := (HT.out.2 2 (.int .i64 0) rfl).1; have x3 := (HT.out.2 3 (.int .i64 0) rfl).1
        go_wp2_with fail
        refine (awake_any _).mono ?_
        rintro e w99 ⟨rfl, hb⟩
        go_wp2_with fail
        go_ret
        exact ⟨rfl, H5.out.below.trans (hb.mono H5.out.below.size)⟩
end Go.Proofs.Ytfnefkenheglhaa
