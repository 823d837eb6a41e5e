/- awake of the statements: the chapter's examples. No condition. -/
import Derived.Test.YtaioobhblfnlaaaD4
namespace Go.Proofs.Ytaioobhblfnlaaa
open Go.RowKit


theorem lit_ints (w : World) (l : List Int) : IntsAt (w.alloc (.cells (l.map (Value.int .i64)).toArray 3)) (some ⟨w.heap.size, 0, none⟩) l.length l := by
  refine ⟨rfl, fun i hi => ⟨w.heap.size, 0, rfl, ?_⟩⟩
  rw [Nat.zero_add]
  exact cell_box w _ 3 i _ (by simp [hi])
theorem OwnRows.boxQ {α : Type} {enc : α → List Value} {z : Nat} {T : TypeId} {w : World} {base : Nat} {v : Value} {l : List α} (_hz : ∀ c, (enc c).length = z) (h : OwnRows enc z T w base v l) (h0 : 0 < l.length) :
    ∃ g c, v = .slice (some ⟨g, 0, none⟩) l.length c ∧ base ≤ g ∧ g < w.heap.size ∧ ∀ k u, (l.flatMap enc)[k]? = some u → w.cell? ⟨g, k, none⟩ = some u := by
  have h9 := h
  rcases h.2 with ⟨rfl, hn⟩ | ⟨g, cap, cur, rfl, hg, hh, hn, hm, hs, ht⟩
  · omega
  · refine ⟨g, cap, rfl, hg, (Array.getElem?_eq_some_iff.1 hh).1, fun k v hk => ?_⟩
    have e : ∀ y : Nat, (⟨g, 0, none⟩ : Addr).add y = ⟨g, 0 + y, none⟩ := fun y => by unfold Addr.add; split <;> simp_all
    have hc := World.ownsRow.cells h9 (g := g) rfl k v hk
    rwa [e, Nat.zero_add] at hc
def KnownC (L : List Value) (g : Nat) (w : World) : Prop := g < w.heap.size ∧ ∀ k u, L[k]? = some u → w.cell? ⟨g, k, none⟩ = some u
theorem KnownC.below {L : List Value} {g : Nat} {w w' : World} (h : KnownC L g w) (hb : Below w.heap.size w w') : KnownC L g w' := ⟨Nat.lt_of_lt_of_le h.1 hb.size, fun k u hk => (hb.cell (p := ⟨g, k, none⟩) h.1).trans (h.2 k u hk)⟩

set_option maxRecDepth 40000 in
set_option maxHeartbeats 16000000 in
theorem awake_any (w : World) : Calls Try.prog 19 #[] w fun e w' => e = .returned (.bool true) ∧ Below w.heap.size w w' := by
  have HW : Hid (Below w.heap.size w w) := hid (Below.refl _ _)
  go_enter Try.func19, Try.ntmps19
  go_wp2_with fail
  refine (three_any none 0 0 _).mono ?_
  rintro e w1 ⟨b1, b2, rfl, h1, h2, _, hb⟩
  have HW := hid (HW.out.trans (hb.mono HW.out.size))
  have HP : Hid (PrgAt w1 (threeP 200 []) (some ⟨b1, 0, none⟩) 2 (some ⟨b2, 0, none⟩) 3 none 0) := hid (three_at h1 h2 (rows_none _))
  clear h1 h2 hb
  have hba : Below w1.heap.size w1 (w1.alloc (.cells #[.int .i64 100, .int .i64 300] 3)) := (Below.refl _ _).alloc (Nat.le_refl _) _
  have HP := hid (HP.out.below hba)
  have HLI : Hid (IntsAt (w1.alloc (.cells #[.int .i64 100, .int .i64 300] 3)) (some ⟨w1.heap.size, 0, none⟩) 2 [100, 300]) := hid (lit_ints w1 [100, 300])
  go_wp2_with fail
  refine (play_any (threeP 200 []) (some ⟨b1, 0, none⟩) 2 2 (some ⟨b2, 0, none⟩) 3 3 none 0 0 (some ⟨w1.heap.size, 0, none⟩) 2 2 [100, 300] _ HP.out HLI.out (by decide)).mono ?_
  rintro e w2 ⟨v, rfl, hown, hb⟩
  replace hb := hba.trans (hb.mono (by simp))
  have HW := hid (HW.out.trans (hb.mono HW.out.size))
  obtain ⟨q1, d1, rfl, hi⟩ := hown.slice
  rw [ex_play.2.1] at hi
  have HI1 : Hid (IntsAt w2 q1 3 [100, 100, 45]) := hid hi
  rw [ex_play.1, ex_play.2.1, ex_play.2.2]
  rw [show ([100, 100, 45] : List Int).length = 3 from rfl]
  clear hi hown
  clear hb hba HP HLI
  obtain ⟨w1, hw1⟩ : ∃ V, V = w2 := ⟨_, rfl⟩
  subst hw1
  go_wp2_with fail
  refine (three_any none 0 0 _).mono ?_
  rintro e w1 ⟨b1, b2, rfl, h1, h2, _, hb⟩
  have HW := hid (HW.out.trans (hb.mono HW.out.size))
  replace HI1 := hid (HI1.out.below hb)
  have HP : Hid (PrgAt w1 (threeP 200 []) (some ⟨b1, 0, none⟩) 2 (some ⟨b2, 0, none⟩) 3 none 0) := hid (three_at h1 h2 (rows_none _))
  clear h1 h2 hb
  go_wp2_with fail
  refine (bounds_any (threeP 200 []) (some ⟨b1, 0, none⟩) 2 2 (some ⟨b2, 0, none⟩) 3 3 none 0 0 _ HP.out).mono ?_
  rintro e w1 ⟨v, rfl, hown, hb⟩
  have HW := hid (HW.out.trans (hb.mono HW.out.size))
  replace HI1 := hid (HI1.out.below hb)
  rw [ex_bnds] at hown
  obtain ⟨g2, d2, rfl, _, hg2, hcl⟩ := hown.boxQ cellsB_len (by rw [bndsTo_len]; decide)
  have HK2 : Hid (KnownC ((bndsTo (threeP 200 []) 3).flatMap cellsB) g2 w1) := hid ⟨hg2, hcl⟩
  rw [ex_err, bndsTo_len]
  clear hown hg2 hcl hb HP
  go_wp2_with fail
  refine (three_any none 0 0 _).mono ?_
  rintro e w1 ⟨b1, b2, rfl, h1, h2, _, hb⟩
  have HW := hid (HW.out.trans (hb.mono HW.out.size))
  replace HI1 := hid (HI1.out.below hb)
  replace HK2 := hid (HK2.out.below hb)
  have HP : Hid (PrgAt w1 (threeP 200 []) (some ⟨b1, 0, none⟩) 2 (some ⟨b2, 0, none⟩) 3 none 0) := hid (three_at h1 h2 (rows_none _))
  clear h1 h2 hb
  go_wp2_with fail
  refine (net_any (threeP 200 []) (some ⟨b1, 0, none⟩) 2 2 (some ⟨b2, 0, none⟩) 3 3 none 0 0 _ HP.out).mono ?_
  rintro e w1 ⟨rfl, hb⟩
  have HW := hid (HW.out.trans (hb.mono HW.out.size))
  replace HI1 := hid (HI1.out.below hb)
  replace HK2 := hid (HK2.out.below hb)
  rw [ex_net.1, ex_net.2, ex_err]
  clear hb HP
  obtain ⟨W2, hW2⟩ : ∃ V, w1.alloc (.cells #[.int .i64 200, .int .i64 215] 51) = V := ⟨_, rfl⟩
  have hb : Below w1.heap.size w1 W2 := by rw [← hW2]; exact (Below.refl _ _).alloc (Nat.le_refl _) _
  have HW := hid (HW.out.trans (hb.mono HW.out.size))
  replace HI1 := hid (HI1.out.below hb)
  replace HK2 := hid (HK2.out.below hb)
  have HX : Hid (BoxIs w1.heap.size #[.int .i64 200, .int .i64 215] W2) := hid (by rw [← hW2]; exact BoxIs.start _ _ _)
  clear hb
  go_wp2_with fail
  clear hW2
  refine (three_any none 0 0 _).mono ?_
  rintro e w1 ⟨b1, b2, rfl, h1, h2, _, hb⟩
  have HW := hid (HW.out.trans (hb.mono HW.out.size))
  replace HI1 := hid (HI1.out.below hb)
  replace HK2 := hid (HK2.out.below hb)
  replace HX := hid (HX.out.below hb)
  have HP : Hid (PrgAt w1 (threeP 200 []) (some ⟨b1, 0, none⟩) 2 (some ⟨b2, 0, none⟩) 3 none 0) := hid (three_at h1 h2 (rows_none _))
  clear h1 h2 hb
  have hba : Below w1.heap.size w1 (w1.alloc (.cells #[.int .i64 1] 3)) := (Below.refl _ _).alloc (Nat.le_refl _) _
  have HP := hid (HP.out.below hba)
  have HLI : Hid (IntsAt (w1.alloc (.cells #[.int .i64 1] 3)) (some ⟨w1.heap.size, 0, none⟩) 1 [1]) := hid (lit_ints w1 [1])
  go_wp2_with fail
  refine (kept_any (threeP 200 []) (some ⟨b1, 0, none⟩) 2 2 (some ⟨b2, 0, none⟩) 3 3 none 0 0 (some ⟨w1.heap.size, 0, none⟩) 1 1 [1] _ HP.out HLI.out (by decide)).mono ?_
  rintro e w2 ⟨rfl, hb⟩
  replace hb := hba.trans (hb.mono (by simp))
  have HW := hid (HW.out.trans (hb.mono HW.out.size))
  replace HI1 := hid (HI1.out.below hb)
  replace HK2 := hid (HK2.out.below hb)
  replace HX := hid (HX.out.below hb)
  rw [ex_kept.1, ex_kept.2.1, ex_kept.2.2]
  clear hb hba HP HLI
  obtain ⟨w1, hw1⟩ : ∃ V, V = w2 := ⟨_, rfl⟩
  subst hw1
  obtain ⟨W2, hW2⟩ : ∃ V, w1.alloc (.cells #[.int .i64 300, .int .i64 320] 51) = V := ⟨_, rfl⟩
  have hb : Below w1.heap.size w1 W2 := by rw [← hW2]; exact (Below.refl _ _).alloc (Nat.le_refl _) _
  have HW := hid (HW.out.trans (hb.mono HW.out.size))
  replace HI1 := hid (HI1.out.below hb)
  replace HK2 := hid (HK2.out.below hb)
  replace HX := hid (HX.out.below hb)
  have HY : Hid (BoxIs w1.heap.size #[.int .i64 300, .int .i64 320] W2) := hid (by rw [← hW2]; exact BoxIs.start _ _ _)
  clear hb
  go_wp2_with fail
  clear hW2
  refine (reserved_any 300 _).mono ?_
  rintro e w1 ⟨b1, b2, rfl, h1, h2, _, hb⟩
  have HW := hid (HW.out.trans (hb.mono HW.out.size))
  replace HI1 := hid (HI1.out.below hb)
  replace HK2 := hid (HK2.out.below hb)
  replace HX := hid (HX.out.below hb)
  replace HY := hid (HY.out.below hb)
  have HP : Hid (PrgAt w1 (threeP 300 []) (some ⟨b1, 0, none⟩) 2 (some ⟨b2, 0, none⟩) 3 none 0) := hid (three_at h1 h2 (rows_none _))
  clear h1 h2 hb
  go_wp2_with fail
  refine (cheapest_any (threeP 300 []) (some ⟨b1, 0, none⟩) 2 2 (some ⟨b2, 0, none⟩) 3 3 none 0 0 _ HP.out).mono ?_
  rintro e w1 ⟨q3, k3, d3, rfl, hi, hb⟩
  have HW := hid (HW.out.trans (hb.mono HW.out.size))
  replace HI1 := hid (HI1.out.below hb)
  replace HK2 := hid (HK2.out.below hb)
  replace HX := hid (HX.out.below hb)
  replace HY := hid (HY.out.below hb)
  rw [ex_ch.2.1] at hi
  obtain rfl : k3 = 2 := hi.1
  have HI3 := hid hi
  rw [ex_ch.2.2.1, ex_ch.2.2.2]
  clear hi hb HP
  go_wp2_with fail
  refine (two_any _).mono ?_
  rintro e w1 ⟨b3, rfl, h3, _, hb⟩
  have HW := hid (HW.out.trans (hb.mono HW.out.size))
  replace HI1 := hid (HI1.out.below hb)
  replace HK2 := hid (HK2.out.below hb)
  replace HX := hid (HX.out.below hb)
  replace HY := hid (HY.out.below hb)
  replace HI3 := hid (HI3.out.below hb)
  have H3 := hid h3
  clear h3 hb
  go_wp2_with fail
  refine (three_any (some ⟨b3, 0, none⟩) 2 2 _).mono ?_
  rintro e w1 ⟨b1, b2, rfl, h1, h2, _, hb⟩
  have HW := hid (HW.out.trans (hb.mono HW.out.size))
  replace HI1 := hid (HI1.out.below hb)
  replace HK2 := hid (HK2.out.below hb)
  replace HX := hid (HX.out.below hb)
  replace HY := hid (HY.out.below hb)
  replace HI3 := hid (HI3.out.below hb)
  have HP : Hid (PrgAt w1 (threeP 200 twoR) (some ⟨b1, 0, none⟩) 2 (some ⟨b2, 0, none⟩) 3 (some ⟨b3, 0, none⟩) 2) := hid (three_at h1 h2 (two_at (H3.out.below hb)))
  clear h1 h2 hb H3
  go_wp2_with fail
  refine (first_any (threeP 200 twoR) (some ⟨b1, 0, none⟩) 2 2 (some ⟨b2, 0, none⟩) 3 3 (some ⟨b3, 0, none⟩) 2 2 _ HP.out (by decide)).mono ?_
  rintro e w1 ⟨rfl, hb⟩
  have HW := hid (HW.out.trans (hb.mono HW.out.size))
  replace HI1 := hid (HI1.out.below hb)
  replace HK2 := hid (HK2.out.below hb)
  replace HX := hid (HX.out.below hb)
  replace HY := hid (HY.out.below hb)
  replace HI3 := hid (HI3.out.below hb)
  rw [ex_first.1, ex_first.2]
  clear hb HP
  go_wp2_with fail
  refine (two_any _).mono ?_
  rintro e w1 ⟨b3, rfl, h3, _, hb⟩
  have HW := hid (HW.out.trans (hb.mono HW.out.size))
  replace HI1 := hid (HI1.out.below hb)
  replace HK2 := hid (HK2.out.below hb)
  replace HX := hid (HX.out.below hb)
  replace HY := hid (HY.out.below hb)
  replace HI3 := hid (HI3.out.below hb)
  have H3 := hid h3
  clear h3 hb
  go_wp2_with fail
  refine (three_any (some ⟨b3, 0, none⟩) 2 2 _).mono ?_
  rintro e w1 ⟨b1, b2, rfl, h1, h2, _, hb⟩
  have HW := hid (HW.out.trans (hb.mono HW.out.size))
  replace HI1 := hid (HI1.out.below hb)
  replace HK2 := hid (HK2.out.below hb)
  replace HX := hid (HX.out.below hb)
  replace HY := hid (HY.out.below hb)
  replace HI3 := hid (HI3.out.below hb)
  have HP : Hid (PrgAt w1 (threeP 200 twoR) (some ⟨b1, 0, none⟩) 2 (some ⟨b2, 0, none⟩) 3 (some ⟨b3, 0, none⟩) 2) := hid (three_at h1 h2 (two_at (H3.out.below hb)))
  clear h1 h2 hb H3
  go_wp2_with fail
  refine (leave_any (threeP 200 twoR) (some ⟨b1, 0, none⟩) 2 2 (some ⟨b2, 0, none⟩) 3 3 (some ⟨b3, 0, none⟩) 2 2 _ HP.out).mono ?_
  rintro e w1 ⟨q4, k4, d4, rfl, hi, hb⟩
  have HW := hid (HW.out.trans (hb.mono HW.out.size))
  replace HI1 := hid (HI1.out.below hb)
  replace HK2 := hid (HK2.out.below hb)
  replace HX := hid (HX.out.below hb)
  replace HY := hid (HY.out.below hb)
  replace HI3 := hid (HI3.out.below hb)
  rw [ex_leave] at hi
  obtain rfl : k4 = 1 := hi.1
  have HI4 := hid hi
  rw [ex_fr]
  clear hi hb HP
  go_wp2_with fail
  refine wp_region_held_drew (S := fun V => Below w1.heap.size w1 V) (by kernel_rfl) ((Below.refl _ _).drew) (fun hS => ?_)
  simp only [List.size_toArray, List.append_eq, List.length_cons, List.length_nil, Nat.reduceAdd, Array.replicate_succ, Array.replicate_zero, List.push_toArray, List.nil_append, List.cons_append]
  refine tkH (i := 0) (v := ?_) (fun V hV => ?_) ?_
  rotate_left
  · go_simp
    try with_reducible rfl
  try simp only [Act.put, List.getElem_toArray, List.getElem_cons_zero, List.setIfInBounds_toArray, List.set_cons_zero, List.set_cons_succ]
  refine tkH (i := 1) (v := ?_) (fun V hV => ?_) ?_
  rotate_left
  · go_simp
    try with_reducible rfl
  try simp only [Act.put, List.getElem_toArray, List.getElem_cons_zero, List.getElem_cons_succ, List.setIfInBounds_toArray, List.set_cons_zero, List.set_cons_succ]
  refine tkH (i := 2) (v := ?_) (fun V hV => ?_) ?_
  rotate_left
  · go_simp
    try with_reducible rfl
  try simp only [Act.put, List.getElem_toArray, List.getElem_cons_zero, List.getElem_cons_succ, List.setIfInBounds_toArray, List.set_cons_zero, List.set_cons_succ]
  refine tkH (i := 3) (v := ?_) (fun V hV => ?_) ?_
  rotate_left
  · go_simp
    try with_reducible rfl
  try simp only [Act.put, List.getElem_toArray, List.getElem_cons_zero, List.getElem_cons_succ, List.setIfInBounds_toArray, List.set_cons_zero, List.set_cons_succ]
  refine wpAnyH_ready (rs := [4]) (by kernel_rfl) (by simp) ?_
  refine AllReadyH.cons (o := _) rfl (fun K hK => ?_) AllReadyH.nil
  obtain ⟨v4, hv4⟩ : ∃ V, w1.drew.alloc (.cells #[.int .i64 100, .int .i64 100, .int .i64 45] 3) = V := ⟨_, rfl⟩
  have HL4 : Hid (IntsAt v4 (some ⟨w1.heap.size, 0, none⟩) 3 [100, 100, 45]) := hid (by rw [← hv4]; exact lit_ints w1.drew [100, 100, 45])
  have hb : Below w1.drew.heap.size w1.drew v4 := by rw [← hv4]; exact (Below.refl _ _).alloc (Nat.le_refl _) _
  have hS2 := hS.trans (hb.mono hS.size)
  go_simp
  refine hK.out _ _ (hS2) (fun hS => ?_)
  clear hK K
  try simp only [List.setIfInBounds_toArray, List.set_cons_zero, List.set_cons_succ]
  as_aux_lemma =>
    refine wpAnyH_ready (rs := [5]) (by kernel_rfl) (by simp) ?_
    refine AllReadyH.cons (o := _) rfl (fun K hK => ?_) AllReadyH.nil
    go_simp
    (with_reducible refine (ints_any _ _ _ [100, 100, 45] _ _ _ [100, 100, 45] _ (HI1.out.below hS) HL4.out (by decide) (by decide)).mono ?_)
    rintro e v5 ⟨rfl, hb⟩
    rw [show decide (([100, 100, 45] : List Int) = [100, 100, 45]) = true from by decide]
    refine hK.out _ _ (hS.trans (hb.mono hS.size)) (fun hS => ?_)
    clear hK K
    try simp only [List.setIfInBounds_toArray, List.set_cons_zero, List.set_cons_succ]
    as_aux_lemma =>
      refine tkH (i := 6) (v := ?_) (fun V hV => ?_) ?_
      rotate_left
      · go_simp
        try with_reducible rfl
      try simp only [Act.put, List.getElem_toArray, List.getElem_cons_zero, List.getElem_cons_succ, List.setIfInBounds_toArray, List.set_cons_zero, List.set_cons_succ]
      refine tkH (i := 7) (v := ?_) (fun V hV => ?_) ?_
      rotate_left
      · go_simp
        try with_reducible rfl
      try simp only [Act.put, List.getElem_toArray, List.getElem_cons_zero, List.getElem_cons_succ, List.setIfInBounds_toArray, List.set_cons_zero, List.set_cons_succ]
      refine tkH (i := 8) (v := ?_) (fun V hV => ?_) ?_
      rotate_left
      · go_simp
        try with_reducible rfl
      try simp only [Act.put, List.getElem_toArray, List.getElem_cons_zero, List.getElem_cons_succ, List.setIfInBounds_toArray, List.set_cons_zero, List.set_cons_succ]
      refine tkH (i := 9) (v := ?_) (fun V hV => ?_) ?_
      rotate_left
      · go_simp
        try with_reducible rfl
      try simp only [Act.put, List.getElem_toArray, List.getElem_cons_zero, List.getElem_cons_succ, List.setIfInBounds_toArray, List.set_cons_zero, List.set_cons_succ]
      refine tkH (i := 10) (v := ?_) (fun V hV => ?_) ?_
      rotate_left
      · go_simp
        try with_reducible rfl
      try simp only [Act.put, List.getElem_toArray, List.getElem_cons_zero, List.getElem_cons_succ, List.setIfInBounds_toArray, List.set_cons_zero, List.set_cons_succ]
      refine tkH (i := 11) (v := ?_) (fun V hV => ?_) ?_
      rotate_left
      · go_simp
        try with_reducible rfl
      try simp only [Act.put, List.getElem_toArray, List.getElem_cons_zero, List.getElem_cons_succ, List.setIfInBounds_toArray, List.set_cons_zero, List.set_cons_succ]
      refine tkH (i := 12) (v := ?_) (fun V hV => ?_) ?_
      rotate_left
      · go_simp
        try with_reducible rfl
      try simp only [Act.put, List.getElem_toArray, List.getElem_cons_zero, List.getElem_cons_succ, List.setIfInBounds_toArray, List.set_cons_zero, List.set_cons_succ]
      refine tkH (i := 13) (v := ?_) (fun V hV => ?_) ?_
      rotate_left
      · go_simp
        try with_reducible rfl
      try simp only [Act.put, List.getElem_toArray, List.getElem_cons_zero, List.getElem_cons_succ, List.setIfInBounds_toArray, List.set_cons_zero, List.set_cons_succ]
      refine tkH (i := 14) (v := ?_) (fun V hV => ?_) ?_
      rotate_left
      · go_simp
        try with_reducible rfl
      try simp only [Act.put, List.getElem_toArray, List.getElem_cons_zero, List.getElem_cons_succ, List.setIfInBounds_toArray, List.set_cons_zero, List.set_cons_succ]
      refine tkH (i := 15) (v := ?_) (fun V hV => ?_) ?_
      rotate_left
      · go_simp
        try with_reducible rfl
      try simp only [Act.put, List.getElem_toArray, List.getElem_cons_zero, List.getElem_cons_succ, List.setIfInBounds_toArray, List.set_cons_zero, List.set_cons_succ]
      refine tkH (i := 16) (v := ?_) (fun V hV => ?_) ?_
      rotate_left
      · go_simp
        try with_reducible rfl
      try simp only [Act.put, List.getElem_toArray, List.getElem_cons_zero, List.getElem_cons_succ, List.setIfInBounds_toArray, List.set_cons_zero, List.set_cons_succ]
      refine tkH (i := 17) (v := ?_) (fun V hV => ?_) ?_
      rotate_left
      · go_simp
        try with_reducible rfl
      try simp only [Act.put, List.getElem_toArray, List.getElem_cons_zero, List.getElem_cons_succ, List.setIfInBounds_toArray, List.set_cons_zero, List.set_cons_succ]
      refine tkH (i := 18) (v := ?_) (fun V hV => ?_) ?_
      rotate_left
      · go_simp
        try with_reducible rfl
      try simp only [Act.put, List.getElem_toArray, List.getElem_cons_zero, List.getElem_cons_succ, List.setIfInBounds_toArray, List.set_cons_zero, List.set_cons_succ]
      refine tkH (i := 19) (v := ?_) (fun V hV => ?_) ?_
      rotate_left
      · go_simp
        try with_reducible rfl
      try simp only [Act.put, List.getElem_toArray, List.getElem_cons_zero, List.getElem_cons_succ, List.setIfInBounds_toArray, List.set_cons_zero, List.set_cons_succ]
      refine tkH (i := 20) (v := ?_) (fun V hV => ?_) ?_
      rotate_left
      · go_simp
        try with_reducible rfl
      try simp only [Act.put, List.getElem_toArray, List.getElem_cons_zero, List.getElem_cons_succ, List.setIfInBounds_toArray, List.set_cons_zero, List.set_cons_succ]
      refine tkH (i := 21) (v := ?_) (fun V hV => ?_) ?_
      rotate_left
      · go_simp
        try with_reducible rfl
      try simp only [Act.put, List.getElem_toArray, List.getElem_cons_zero, List.getElem_cons_succ, List.setIfInBounds_toArray, List.set_cons_zero, List.set_cons_succ]
      refine tkH (i := 22) (v := ?_) (fun V hV => ?_) ?_
      rotate_left
      · go_simp
        try with_reducible rfl
      try simp only [Act.put, List.getElem_toArray, List.getElem_cons_zero, List.getElem_cons_succ, List.setIfInBounds_toArray, List.set_cons_zero, List.set_cons_succ]
      refine tkH (i := 23) (v := ?_) (fun V hV => ?_) ?_
      rotate_left
      · have hX := HK2.out.below hV; have e0 := hX.2 0 (.int .i64 (bndPays (threeP 200 []) 0).lo) rfl; rw [ex_bp.1] at e0; have e1 := hX.2 1 (.int .i64 (bndPays (threeP 200 []) 0).hi) rfl; rw [ex_bp.2.1] at e1; have e2 := hX.2 2 (.int .i64 (bndKeeps (threeP 200 []) 0).lo) rfl; rw [ex_bp.2.2.1] at e2; have e3 := hX.2 3 (.int .i64 (bndKeeps (threeP 200 []) 0).hi) rfl; rw [ex_bp.2.2.2] at e3; go_simp
        try with_reducible rfl
      try simp only [Act.put, List.getElem_toArray, List.getElem_cons_zero, List.getElem_cons_succ, List.setIfInBounds_toArray, List.set_cons_zero, List.set_cons_succ]
      refine wpAnyH_ready (rs := [24]) (by kernel_rfl) (by simp) ?_
      refine AllReadyH.cons (o := _) rfl (fun K hK => ?_) AllReadyH.nil
      go_simp
      (with_reducible refine (between_any 100 105 _).mono ?_)
      rintro e v24 ⟨rfl, hb⟩
      refine hK.out _ _ (hS.trans (hb.mono hS.size)) (fun hS => ?_)
      clear hK K
      try simp only [List.setIfInBounds_toArray, List.set_cons_zero, List.set_cons_succ]
      as_aux_lemma =>
        refine wpAnyH_ready (rs := [25]) (by kernel_rfl) (by simp) ?_
        refine AllReadyH.cons (o := _) rfl (fun K hK => ?_) AllReadyH.nil
        go_simp
        (with_reducible refine (between_any 55 55 _).mono ?_)
        rintro e v25 ⟨rfl, hb⟩
        refine hK.out _ _ (hS.trans (hb.mono hS.size)) (fun hS => ?_)
        clear hK K
        try simp only [List.setIfInBounds_toArray, List.set_cons_zero, List.set_cons_succ]
        as_aux_lemma =>
          refine tkH (i := 26) (v := ?_) (fun V hV => ?_) ?_
          rotate_left
          · go_simp
            try with_reducible rfl
          try simp only [Act.put, List.getElem_toArray, List.getElem_cons_zero, List.getElem_cons_succ, List.setIfInBounds_toArray, List.set_cons_zero, List.set_cons_succ]
          refine tkH (i := 27) (v := ?_) (fun V hV => ?_) ?_
          rotate_left
          · go_simp
            try with_reducible rfl
          try simp only [Act.put, List.getElem_toArray, List.getElem_cons_zero, List.getElem_cons_succ, List.setIfInBounds_toArray, List.set_cons_zero, List.set_cons_succ]
          refine tkH (i := 28) (v := ?_) (fun V hV => ?_) ?_
          rotate_left
          · go_simp
            try with_reducible rfl
          try simp only [Act.put, List.getElem_toArray, List.getElem_cons_zero, List.getElem_cons_succ, List.setIfInBounds_toArray, List.set_cons_zero, List.set_cons_succ]
          refine tkH (i := 29) (v := ?_) (fun V hV => ?_) ?_
          rotate_left
          · go_simp
            try with_reducible rfl
          try simp only [Act.put, List.getElem_toArray, List.getElem_cons_zero, List.getElem_cons_succ, List.setIfInBounds_toArray, List.set_cons_zero, List.set_cons_succ]
          refine tkH (i := 30) (v := ?_) (fun V hV => ?_) ?_
          rotate_left
          · go_simp
            try with_reducible rfl
          try simp only [Act.put, List.getElem_toArray, List.getElem_cons_zero, List.getElem_cons_succ, List.setIfInBounds_toArray, List.set_cons_zero, List.set_cons_succ]
          refine tkH (i := 31) (v := ?_) (fun V hV => ?_) ?_
          rotate_left
          · go_simp
            try with_reducible rfl
          try simp only [Act.put, List.getElem_toArray, List.getElem_cons_zero, List.getElem_cons_succ, List.setIfInBounds_toArray, List.set_cons_zero, List.set_cons_succ]
          refine tkH (i := 32) (v := ?_) (fun V hV => ?_) ?_
          rotate_left
          · have hX := HK2.out.below hV; have e8 := hX.2 8 (.int .i64 (bndPays (threeP 200 []) 2).lo) rfl; rw [ex_bq.1] at e8; have e9 := hX.2 9 (.int .i64 (bndPays (threeP 200 []) 2).hi) rfl; rw [ex_bq.2.1] at e9; have e10 := hX.2 10 (.int .i64 (bndKeeps (threeP 200 []) 2).lo) rfl; rw [ex_bq.2.2.1] at e10; have e11 := hX.2 11 (.int .i64 (bndKeeps (threeP 200 []) 2).hi) rfl; rw [ex_bq.2.2.2] at e11; go_simp
            try with_reducible rfl
          try simp only [Act.put, List.getElem_toArray, List.getElem_cons_zero, List.getElem_cons_succ, List.setIfInBounds_toArray, List.set_cons_zero, List.set_cons_succ]
          refine wpAnyH_ready (rs := [33]) (by kernel_rfl) (by simp) ?_
          refine AllReadyH.cons (o := _) rfl (fun K hK => ?_) AllReadyH.nil
          go_simp
          (with_reducible refine (between_any 45 50 _).mono ?_)
          rintro e v33 ⟨rfl, hb⟩
          refine hK.out _ _ (hS.trans (hb.mono hS.size)) (fun hS => ?_)
          clear hK K
          try simp only [List.setIfInBounds_toArray, List.set_cons_zero, List.set_cons_succ]
          as_aux_lemma =>
            refine wpAnyH_ready (rs := [34]) (by kernel_rfl) (by simp) ?_
            refine AllReadyH.cons (o := _) rfl (fun K hK => ?_) AllReadyH.nil
            go_simp
            (with_reducible refine (between_any 45 50 _).mono ?_)
            rintro e v34 ⟨rfl, hb⟩
            refine hK.out _ _ (hS.trans (hb.mono hS.size)) (fun hS => ?_)
            clear hK K
            try simp only [List.setIfInBounds_toArray, List.set_cons_zero, List.set_cons_succ]
            as_aux_lemma =>
              refine tkH (i := 35) (v := ?_) (fun V hV => ?_) ?_
              rotate_left
              · go_simp
                try with_reducible rfl
              try simp only [Act.put, List.getElem_toArray, List.getElem_cons_zero, List.getElem_cons_succ, List.setIfInBounds_toArray, List.set_cons_zero, List.set_cons_succ]
              refine tkH (i := 36) (v := ?_) (fun V hV => ?_) ?_
              rotate_left
              · go_simp
                try with_reducible rfl
              try simp only [Act.put, List.getElem_toArray, List.getElem_cons_zero, List.getElem_cons_succ, List.setIfInBounds_toArray, List.set_cons_zero, List.set_cons_succ]
              refine tkH (i := 37) (v := ?_) (fun V hV => ?_) ?_
              rotate_left
              · go_simp
                try with_reducible rfl
              try simp only [Act.put, List.getElem_toArray, List.getElem_cons_zero, List.getElem_cons_succ, List.setIfInBounds_toArray, List.set_cons_zero, List.set_cons_succ]
              refine tkH (i := 38) (v := ?_) (fun V hV => ?_) ?_
              rotate_left
              · go_simp
                try with_reducible rfl
              try simp only [Act.put, List.getElem_toArray, List.getElem_cons_zero, List.getElem_cons_succ, List.setIfInBounds_toArray, List.set_cons_zero, List.set_cons_succ]
              refine tkH (i := 39) (v := ?_) (fun V hV => ?_) ?_
              rotate_left
              · go_simp
                try with_reducible rfl
              try simp only [Act.put, List.getElem_toArray, List.getElem_cons_zero, List.getElem_cons_succ, List.setIfInBounds_toArray, List.set_cons_zero, List.set_cons_succ]
              refine tkH (i := 40) (v := ?_) (fun V hV => ?_) ?_
              rotate_left
              · go_simp
                try with_reducible rfl
              try simp only [Act.put, List.getElem_toArray, List.getElem_cons_zero, List.getElem_cons_succ, List.setIfInBounds_toArray, List.set_cons_zero, List.set_cons_succ]
              refine tkH (i := 41) (v := ?_) (fun V hV => ?_) ?_
              rotate_left
              · go_simp
                try with_reducible rfl
              try simp only [Act.put, List.getElem_toArray, List.getElem_cons_zero, List.getElem_cons_succ, List.setIfInBounds_toArray, List.set_cons_zero, List.set_cons_succ]
              refine tkH (i := 42) (v := ?_) (fun V hV => ?_) ?_
              rotate_left
              · go_simp
                try with_reducible rfl
              try simp only [Act.put, List.getElem_toArray, List.getElem_cons_zero, List.getElem_cons_succ, List.setIfInBounds_toArray, List.set_cons_zero, List.set_cons_succ]
              refine tkH (i := 43) (v := ?_) (fun V hV => ?_) ?_
              rotate_left
              · have hX := HX.out.below hV; have e0 := (hX.2 0 (.int .i64 200) rfl).1; have e1 := (hX.2 1 (.int .i64 215) rfl).1; go_simp
                try with_reducible rfl
              try simp only [Act.put, List.getElem_toArray, List.getElem_cons_zero, List.getElem_cons_succ, List.setIfInBounds_toArray, List.set_cons_zero, List.set_cons_succ]
              refine wpAnyH_ready (rs := [44]) (by kernel_rfl) (by simp) ?_
              refine AllReadyH.cons (o := _) rfl (fun K hK => ?_) AllReadyH.nil
              go_simp
              (with_reducible refine (between_any 200 215 _).mono ?_)
              rintro e v44 ⟨rfl, hb⟩
              refine hK.out _ _ (hS.trans (hb.mono hS.size)) (fun hS => ?_)
              clear hK K
              try simp only [List.setIfInBounds_toArray, List.set_cons_zero, List.set_cons_succ]
              as_aux_lemma =>
                refine tkH (i := 45) (v := ?_) (fun V hV => ?_) ?_
                rotate_left
                · go_simp
                  try with_reducible rfl
                try simp only [Act.put, List.getElem_toArray, List.getElem_cons_zero, List.getElem_cons_succ, List.setIfInBounds_toArray, List.set_cons_zero, List.set_cons_succ]
                refine tkH (i := 46) (v := ?_) (fun V hV => ?_) ?_
                rotate_left
                · go_simp
                  try with_reducible rfl
                try simp only [Act.put, List.getElem_toArray, List.getElem_cons_zero, List.getElem_cons_succ, List.setIfInBounds_toArray, List.set_cons_zero, List.set_cons_succ]
                refine tkH (i := 47) (v := ?_) (fun V hV => ?_) ?_
                rotate_left
                · go_simp
                  try with_reducible rfl
                try simp only [Act.put, List.getElem_toArray, List.getElem_cons_zero, List.getElem_cons_succ, List.setIfInBounds_toArray, List.set_cons_zero, List.set_cons_succ]
                refine tkH (i := 48) (v := ?_) (fun V hV => ?_) ?_
                rotate_left
                · go_simp
                  try with_reducible rfl
                try simp only [Act.put, List.getElem_toArray, List.getElem_cons_zero, List.getElem_cons_succ, List.setIfInBounds_toArray, List.set_cons_zero, List.set_cons_succ]
                refine tkH (i := 49) (v := ?_) (fun V hV => ?_) ?_
                rotate_left
                · go_simp
                  try with_reducible rfl
                try simp only [Act.put, List.getElem_toArray, List.getElem_cons_zero, List.getElem_cons_succ, List.setIfInBounds_toArray, List.set_cons_zero, List.set_cons_succ]
                refine tkH (i := 50) (v := ?_) (fun V hV => ?_) ?_
                rotate_left
                · go_simp
                  try with_reducible rfl
                try simp only [Act.put, List.getElem_toArray, List.getElem_cons_zero, List.getElem_cons_succ, List.setIfInBounds_toArray, List.set_cons_zero, List.set_cons_succ]
                refine tkH (i := 51) (v := ?_) (fun V hV => ?_) ?_
                rotate_left
                · go_simp
                  try with_reducible rfl
                try simp only [Act.put, List.getElem_toArray, List.getElem_cons_zero, List.getElem_cons_succ, List.setIfInBounds_toArray, List.set_cons_zero, List.set_cons_succ]
                refine tkH (i := 52) (v := ?_) (fun V hV => ?_) ?_
                rotate_left
                · have hX := HY.out.below hV; have e0 := (hX.2 0 (.int .i64 300) rfl).1; have e1 := (hX.2 1 (.int .i64 320) rfl).1; go_simp
                  try with_reducible rfl
                try simp only [Act.put, List.getElem_toArray, List.getElem_cons_zero, List.getElem_cons_succ, List.setIfInBounds_toArray, List.set_cons_zero, List.set_cons_succ]
                refine wpAnyH_ready (rs := [53]) (by kernel_rfl) (by simp) ?_
                refine AllReadyH.cons (o := _) rfl (fun K hK => ?_) AllReadyH.nil
                go_simp
                (with_reducible refine (between_any 300 320 _).mono ?_)
                rintro e v53 ⟨rfl, hb⟩
                refine hK.out _ _ (hS.trans (hb.mono hS.size)) (fun hS => ?_)
                clear hK K
                try simp only [List.setIfInBounds_toArray, List.set_cons_zero, List.set_cons_succ]
                as_aux_lemma =>
                  refine tkH (i := 54) (v := ?_) (fun V hV => ?_) ?_
                  rotate_left
                  · go_simp
                    try with_reducible rfl
                  try simp only [Act.put, List.getElem_toArray, List.getElem_cons_zero, List.getElem_cons_succ, List.setIfInBounds_toArray, List.set_cons_zero, List.set_cons_succ]
                  refine tkH (i := 55) (v := ?_) (fun V hV => ?_) ?_
                  rotate_left
                  · go_simp
                    try with_reducible rfl
                  try simp only [Act.put, List.getElem_toArray, List.getElem_cons_zero, List.getElem_cons_succ, List.setIfInBounds_toArray, List.set_cons_zero, List.set_cons_succ]
                  refine tkH (i := 56) (v := ?_) (fun V hV => ?_) ?_
                  rotate_left
                  · go_simp
                    try with_reducible rfl
                  try simp only [Act.put, List.getElem_toArray, List.getElem_cons_zero, List.getElem_cons_succ, List.setIfInBounds_toArray, List.set_cons_zero, List.set_cons_succ]
                  refine tkH (i := 57) (v := ?_) (fun V hV => ?_) ?_
                  rotate_left
                  · go_simp
                    try with_reducible rfl
                  try simp only [Act.put, List.getElem_toArray, List.getElem_cons_zero, List.getElem_cons_succ, List.setIfInBounds_toArray, List.set_cons_zero, List.set_cons_succ]
                  refine tkH (i := 58) (v := ?_) (fun V hV => ?_) ?_
                  rotate_left
                  · go_simp
                    try with_reducible rfl
                  try simp only [Act.put, List.getElem_toArray, List.getElem_cons_zero, List.getElem_cons_succ, List.setIfInBounds_toArray, List.set_cons_zero, List.set_cons_succ]
                  refine tkH (i := 59) (v := ?_) (fun V hV => ?_) ?_
                  rotate_left
                  · go_simp
                    try with_reducible rfl
                  try simp only [Act.put, List.getElem_toArray, List.getElem_cons_zero, List.getElem_cons_succ, List.setIfInBounds_toArray, List.set_cons_zero, List.set_cons_succ]
                  refine tkH (i := 60) (v := ?_) (fun V hV => ?_) ?_
                  rotate_left
                  · go_simp
                    try with_reducible rfl
                  try simp only [Act.put, List.getElem_toArray, List.getElem_cons_zero, List.getElem_cons_succ, List.setIfInBounds_toArray, List.set_cons_zero, List.set_cons_succ]
                  refine tkH (i := 61) (v := ?_) (fun V hV => ?_) ?_
                  rotate_left
                  · go_simp
                    try with_reducible rfl
                  try simp only [Act.put, List.getElem_toArray, List.getElem_cons_zero, List.getElem_cons_succ, List.setIfInBounds_toArray, List.set_cons_zero, List.set_cons_succ]
                  refine wpAnyH_ready (rs := [62]) (by kernel_rfl) (by simp) ?_
                  refine AllReadyH.cons (o := _) rfl (fun K hK => ?_) AllReadyH.nil
                  obtain ⟨v62, hv62⟩ : ∃ V, v53.alloc (.cells #[.int .i64 0, .int .i64 1] 3) = V := ⟨_, rfl⟩
                  have HL62 : Hid (IntsAt v62 (some ⟨v53.heap.size, 0, none⟩) 2 [0, 1]) := hid (by rw [← hv62]; exact lit_ints v53 [0, 1])
                  have hb : Below v53.heap.size v53 v62 := by rw [← hv62]; exact (Below.refl _ _).alloc (Nat.le_refl _) _
                  have hS2 := hS.trans (hb.mono hS.size)
                  go_simp
                  refine hK.out _ _ (hS2) (fun hS => ?_)
                  clear hK K
                  try simp only [List.setIfInBounds_toArray, List.set_cons_zero, List.set_cons_succ]
                  as_aux_lemma =>
                    refine wpAnyH_ready (rs := [63]) (by kernel_rfl) (by simp) ?_
                    refine AllReadyH.cons (o := _) rfl (fun K hK => ?_) AllReadyH.nil
                    go_simp
                    (with_reducible refine (ints_any _ _ _ [0, 1] _ _ _ [0, 1] _ (HI3.out.below hS) HL62.out (by decide) (by decide)).mono ?_)
                    rintro e v63 ⟨rfl, hb⟩
                    rw [show decide (([0, 1] : List Int) = [0, 1]) = true from by decide]
                    refine hK.out _ _ (hS.trans (hb.mono hS.size)) (fun hS => ?_)
                    clear hK K
                    try simp only [List.setIfInBounds_toArray, List.set_cons_zero, List.set_cons_succ]
                    as_aux_lemma =>
                      refine tkH (i := 64) (v := ?_) (fun V hV => ?_) ?_
                      rotate_left
                      · go_simp
                        try with_reducible rfl
                      try simp only [Act.put, List.getElem_toArray, List.getElem_cons_zero, List.getElem_cons_succ, List.setIfInBounds_toArray, List.set_cons_zero, List.set_cons_succ]
                      refine tkH (i := 65) (v := ?_) (fun V hV => ?_) ?_
                      rotate_left
                      · go_simp
                        try with_reducible rfl
                      try simp only [Act.put, List.getElem_toArray, List.getElem_cons_zero, List.getElem_cons_succ, List.setIfInBounds_toArray, List.set_cons_zero, List.set_cons_succ]
                      refine tkH (i := 66) (v := ?_) (fun V hV => ?_) ?_
                      rotate_left
                      · go_simp
                        try with_reducible rfl
                      try simp only [Act.put, List.getElem_toArray, List.getElem_cons_zero, List.getElem_cons_succ, List.setIfInBounds_toArray, List.set_cons_zero, List.set_cons_succ]
                      refine tkH (i := 67) (v := ?_) (fun V hV => ?_) ?_
                      rotate_left
                      · go_simp
                        try with_reducible rfl
                      try simp only [Act.put, List.getElem_toArray, List.getElem_cons_zero, List.getElem_cons_succ, List.setIfInBounds_toArray, List.set_cons_zero, List.set_cons_succ]
                      refine tkH (i := 68) (v := ?_) (fun V hV => ?_) ?_
                      rotate_left
                      · go_simp
                        try with_reducible rfl
                      try simp only [Act.put, List.getElem_toArray, List.getElem_cons_zero, List.getElem_cons_succ, List.setIfInBounds_toArray, List.set_cons_zero, List.set_cons_succ]
                      refine tkH (i := 69) (v := ?_) (fun V hV => ?_) ?_
                      rotate_left
                      · go_simp
                        try with_reducible rfl
                      try simp only [Act.put, List.getElem_toArray, List.getElem_cons_zero, List.getElem_cons_succ, List.setIfInBounds_toArray, List.set_cons_zero, List.set_cons_succ]
                      refine tkH (i := 71) (v := ?_) (fun V hV => ?_) ?_
                      rotate_left
                      · go_simp
                        try with_reducible rfl
                      try simp only [Act.put, List.getElem_toArray, List.getElem_cons_zero, List.getElem_cons_succ, List.setIfInBounds_toArray, List.set_cons_zero, List.set_cons_succ]
                      refine wpAnyH_ready (rs := [70]) (by kernel_rfl) (by simp) ?_
                      refine AllReadyH.cons (o := _) rfl (fun K hK => ?_) AllReadyH.nil
                      go_simp
                      refine (reserved_any 300 _).mono ?_
                      rintro e v70 ⟨b1, b2, rfl, h1, h2, _, hb⟩
                      have HP : Hid (PrgAt v70 (threeP 300 []) (some ⟨b1, 0, none⟩) 2 (some ⟨b2, 0, none⟩) 3 none 0) := hid (three_at h1 h2 (rows_none _))
                      have hS3 := hS.trans (hb.mono hS.size)
                      clear h1 h2
                      refine hK.out _ _ (hS3) (fun hS => ?_)
                      clear hK K
                      try simp only [List.setIfInBounds_toArray, List.set_cons_zero, List.set_cons_succ]
                      as_aux_lemma =>
                        refine wpAnyH_ready (rs := [72]) (by kernel_rfl) (by simp) ?_
                        refine AllReadyH.cons (o := _) rfl (fun K hK => ?_) AllReadyH.nil
                        go_simp
                        refine (prove_any (threeP 300 []) (some ⟨b1, 0, none⟩) 2 2 (some ⟨b2, 0, none⟩) 3 3 none 0 0 q3 2 d3 [0, 1] 80 _ HP.out (HI3.out.below hS) (by decide)).mono ?_
                        rintro e v72 ⟨rfl, hb⟩
                        rw [ex_prove]
                        refine hK.out _ _ (hS.trans (hb.mono hS.size)) (fun hS => ?_)
                        clear hK K
                        try simp only [List.setIfInBounds_toArray, List.set_cons_zero, List.set_cons_succ]
                        as_aux_lemma =>
                          refine tkH (i := 73) (v := ?_) (fun V hV => ?_) ?_
                          rotate_left
                          · go_simp
                            try with_reducible rfl
                          try simp only [Act.put, List.getElem_toArray, List.getElem_cons_zero, List.getElem_cons_succ, List.setIfInBounds_toArray, List.set_cons_zero, List.set_cons_succ]
                          refine tkH (i := 74) (v := ?_) (fun V hV => ?_) ?_
                          rotate_left
                          · go_simp
                            try with_reducible rfl
                          try simp only [Act.put, List.getElem_toArray, List.getElem_cons_zero, List.getElem_cons_succ, List.setIfInBounds_toArray, List.set_cons_zero, List.set_cons_succ]
                          refine tkH (i := 75) (v := ?_) (fun V hV => ?_) ?_
                          rotate_left
                          · go_simp
                            try with_reducible rfl
                          try simp only [Act.put, List.getElem_toArray, List.getElem_cons_zero, List.getElem_cons_succ, List.setIfInBounds_toArray, List.set_cons_zero, List.set_cons_succ]
                          refine tkH (i := 76) (v := ?_) (fun V hV => ?_) ?_
                          rotate_left
                          · go_simp
                            try with_reducible rfl
                          try simp only [Act.put, List.getElem_toArray, List.getElem_cons_zero, List.getElem_cons_succ, List.setIfInBounds_toArray, List.set_cons_zero, List.set_cons_succ]
                          refine tkH (i := 77) (v := ?_) (fun V hV => ?_) ?_
                          rotate_left
                          · go_simp
                            try with_reducible rfl
                          try simp only [Act.put, List.getElem_toArray, List.getElem_cons_zero, List.getElem_cons_succ, List.setIfInBounds_toArray, List.set_cons_zero, List.set_cons_succ]
                          refine tkH (i := 78) (v := ?_) (fun V hV => ?_) ?_
                          rotate_left
                          · go_simp
                            try with_reducible rfl
                          try simp only [Act.put, List.getElem_toArray, List.getElem_cons_zero, List.getElem_cons_succ, List.setIfInBounds_toArray, List.set_cons_zero, List.set_cons_succ]
                          refine tkH (i := 79) (v := ?_) (fun V hV => ?_) ?_
                          rotate_left
                          · go_simp
                            try with_reducible rfl
                          try simp only [Act.put, List.getElem_toArray, List.getElem_cons_zero, List.getElem_cons_succ, List.setIfInBounds_toArray, List.set_cons_zero, List.set_cons_succ]
                          refine tkH (i := 80) (v := ?_) (fun V hV => ?_) ?_
                          rotate_left
                          · go_simp
                            try with_reducible rfl
                          try simp only [Act.put, List.getElem_toArray, List.getElem_cons_zero, List.getElem_cons_succ, List.setIfInBounds_toArray, List.set_cons_zero, List.set_cons_succ]
                          refine tkH (i := 81) (v := ?_) (fun V hV => ?_) ?_
                          rotate_left
                          · go_simp
                            try with_reducible rfl
                          try simp only [Act.put, List.getElem_toArray, List.getElem_cons_zero, List.getElem_cons_succ, List.setIfInBounds_toArray, List.set_cons_zero, List.set_cons_succ]
                          refine tkH (i := 82) (v := ?_) (fun V hV => ?_) ?_
                          rotate_left
                          · go_simp
                            try with_reducible rfl
                          try simp only [Act.put, List.getElem_toArray, List.getElem_cons_zero, List.getElem_cons_succ, List.setIfInBounds_toArray, List.set_cons_zero, List.set_cons_succ]
                          refine tkH (i := 83) (v := ?_) (fun V hV => ?_) ?_
                          rotate_left
                          · go_simp
                            try with_reducible rfl
                          try simp only [Act.put, List.getElem_toArray, List.getElem_cons_zero, List.getElem_cons_succ, List.setIfInBounds_toArray, List.set_cons_zero, List.set_cons_succ]
                          refine tkH (i := 84) (v := ?_) (fun V hV => ?_) ?_
                          rotate_left
                          · go_simp
                            try with_reducible rfl
                          try simp only [Act.put, List.getElem_toArray, List.getElem_cons_zero, List.getElem_cons_succ, List.setIfInBounds_toArray, List.set_cons_zero, List.set_cons_succ]
                          refine tkH (i := 85) (v := ?_) (fun V hV => ?_) ?_
                          rotate_left
                          · go_simp
                            try with_reducible rfl
                          try simp only [Act.put, List.getElem_toArray, List.getElem_cons_zero, List.getElem_cons_succ, List.setIfInBounds_toArray, List.set_cons_zero, List.set_cons_succ]
                          refine tkH (i := 86) (v := ?_) (fun V hV => ?_) ?_
                          rotate_left
                          · go_simp
                            try with_reducible rfl
                          try simp only [Act.put, List.getElem_toArray, List.getElem_cons_zero, List.getElem_cons_succ, List.setIfInBounds_toArray, List.set_cons_zero, List.set_cons_succ]
                          refine tkH (i := 87) (v := ?_) (fun V hV => ?_) ?_
                          rotate_left
                          · go_simp
                            try with_reducible rfl
                          try simp only [Act.put, List.getElem_toArray, List.getElem_cons_zero, List.getElem_cons_succ, List.setIfInBounds_toArray, List.set_cons_zero, List.set_cons_succ]
                          refine wpAnyH_ready (rs := [88]) (by kernel_rfl) (by simp) ?_
                          refine AllReadyH.cons (o := _) rfl (fun K hK => ?_) AllReadyH.nil
                          obtain ⟨v88, hv88⟩ : ∃ V, v72.alloc (.cells #[.int .i64 0] 3) = V := ⟨_, rfl⟩
                          have HL88 : Hid (IntsAt v88 (some ⟨v72.heap.size, 0, none⟩) 1 [0]) := hid (by rw [← hv88]; exact lit_ints v72 [0])
                          have hb : Below v72.heap.size v72 v88 := by rw [← hv88]; exact (Below.refl _ _).alloc (Nat.le_refl _) _
                          have hS2 := hS.trans (hb.mono hS.size)
                          go_simp
                          refine hK.out _ _ (hS2) (fun hS => ?_)
                          clear hK K
                          try simp only [List.setIfInBounds_toArray, List.set_cons_zero, List.set_cons_succ]
                          as_aux_lemma =>
                            refine wpAnyH_ready (rs := [89]) (by kernel_rfl) (by simp) ?_
                            refine AllReadyH.cons (o := _) rfl (fun K hK => ?_) AllReadyH.nil
                            go_simp
                            (with_reducible refine (ints_any _ _ _ [0] _ _ _ [0] _ (HI4.out.below hS) HL88.out (by decide) (by decide)).mono ?_)
                            rintro e v89 ⟨rfl, hb⟩
                            rw [show decide (([0] : List Int) = [0]) = true from by decide]
                            refine hK.out _ _ (hS.trans (hb.mono hS.size)) (fun hS => ?_)
                            clear hK K
                            try simp only [List.setIfInBounds_toArray, List.set_cons_zero, List.set_cons_succ]
                            as_aux_lemma =>
                              refine tkH (i := 90) (v := ?_) (fun V hV => ?_) ?_
                              rotate_left
                              · go_simp
                                try with_reducible rfl
                              try simp only [Act.put, List.getElem_toArray, List.getElem_cons_zero, List.getElem_cons_succ, List.setIfInBounds_toArray, List.set_cons_zero, List.set_cons_succ]
                              refine tkH (i := 91) (v := ?_) (fun V hV => ?_) ?_
                              rotate_left
                              · go_simp
                                try with_reducible rfl
                              try simp only [Act.put, List.getElem_toArray, List.getElem_cons_zero, List.getElem_cons_succ, List.setIfInBounds_toArray, List.set_cons_zero, List.set_cons_succ]
                              refine wpAnyH_done (by kernel_rfl) ?_ _
                              go_wp2_with fail
                              go_ret
                              exact ⟨rfl, HW.out.trans (hS.mono HW.out.size)⟩
end Go.Proofs.Ytaioobhblfnlaaa
