/- awake of the statements: the chapter's examples. No condition. -/
import Derived.Test.YtfnefkenheglhaaLawA
namespace Go.Proofs.Ytfnefkenheglhaa
open Go.RowKit

theorem lit_ints (w : World) (l : List Int) : IntsAt (w.alloc (.cells (l.map (Value.int .i64)).toArray 3)) (some ⟨w.heap.size, 0, none⟩) l.length l := by
  refine ⟨rfl, fun i hi => ⟨w.heap.size, 0, rfl, ?_⟩⟩
  rw [Nat.zero_add]
  exact cell_box w _ 3 i _ (by simp [hi])

set_option maxRecDepth 40000 in
set_option maxHeartbeats 16000000 in
theorem awake_any (w : World) : Calls Try.prog 18 #[] w fun e w' => e = .returned (.bool true) ∧ Below w.heap.size w w' := by
  have HW : Hid (Below w.heap.size w w) := Below.refl _ _
  go_enter Try.func18, Try.ntmps18
  go_wp2_with fail
  refine (five3_any _).mono ?_
  rintro e w1 ⟨b, rfl, hc, hb⟩
  have HW := hid (HW.out.trans (hb.mono HW.out.size))
  have HC := hid hc
  clear hc hb
  go_wp2_with fail
  refine (bounds_any (fiveS 3) _ 3 4 _ HC.out).mono ?_
  rintro e w1 ⟨q, m, d, rfl, hcb, hb⟩
  have HW := hid (HW.out.trans (hb.mono HW.out.size))
  obtain ⟨x0, x1, x2, x3, x4, x5, x6, x7, x8⟩ := ex_bnd
  obtain rfl : m = 3 := hcb.1.trans x8
  rw [x0, x1, x2, x3, x4, x5, x6, x7, ex_sure.2.1]
  clear x0 x1 x2 x3 x4 x5 x6 x7 x8 hcb hb HC
  obtain ⟨v0, hv0⟩ : ∃ v, (boundS (fiveS 3)).wide = v := ⟨_, rfl⟩
  obtain ⟨v1, hv1⟩ : ∃ v, (boundS (fiveS 3)).high = v := ⟨_, rfl⟩
  obtain ⟨v2, hv2⟩ : ∃ v, (boundS (fiveS 3)).fall = v := ⟨_, rfl⟩
  rw [hv0, hv1, hv2]
  clear hv0 hv1 hv2
  obtain ⟨W2, hW2⟩ : ∃ V, w1.alloc (.cells #[.int .i64 v0, .int .i64 v1, .int .i64 v2, .int .i64 1, .int .i64 1, .int .i64 2, .int .i64 2, .int .i64 1, .int .i64 1, .int .i64 3, .int .i64 3, .slice q 3 d] 35) = V := ⟨_, rfl⟩
  have hb : Below w1.heap.size w1 W2 := by rw [← hW2]; exact (Below.refl _ _).alloc (Nat.le_refl _) _
  have HW := hid (HW.out.trans (hb.mono HW.out.size))
  have HX : Hid (BoxIs w1.heap.size #[.int .i64 v0, .int .i64 v1, .int .i64 v2, .int .i64 1, .int .i64 1, .int .i64 2, .int .i64 2, .int .i64 1, .int .i64 1, .int .i64 3, .int .i64 3, .slice q 3 d] W2) := by show BoxIs _ _ _; rw [← hW2]; exact BoxIs.start _ _ _
  clear hb
  go_wp2_with fail
  refine (five3_any _).mono ?_
  rintro e w1 ⟨b, rfl, hc, hb⟩
  have HW := hid (HW.out.trans (hb.mono HW.out.size))
  have HX := hid (HX.out.below hb)
  have HC := hid hc
  clear hc hb
  clear hW2
  go_wp2_with fail
  refine (rect69_any 0 1 1 1 _).mono ?_
  rintro e w1 ⟨rfl, hb⟩
  have HW := hid (HW.out.trans (hb.mono HW.out.size))
  have HX := hid (HX.out.below hb)
  have HC := hid (HC.out.below hb)
  clear hb
  go_wp2_with fail
  refine (verdict_any (fiveS 3) _ 3 4 ⟨0, 1⟩ ⟨1, 1⟩ _ HC.out).mono ?_
  rintro e w1 ⟨rfl, hb⟩
  have HW := hid (HW.out.trans (hb.mono HW.out.size))
  have HX := hid (HX.out.below hb)
  rw [ex_ver1.1, ex_ver1.2]
  clear hb HC
  go_wp2_with fail
  refine (five3_any _).mono ?_
  rintro e w1 ⟨b, rfl, hc, hb⟩
  have HW := hid (HW.out.trans (hb.mono HW.out.size))
  have HX := hid (HX.out.below hb)
  have HC := hid hc
  clear hc hb
  go_wp2_with fail
  refine (rect69_any 0 4 4 4 _).mono ?_
  rintro e w1 ⟨rfl, hb⟩
  have HW := hid (HW.out.trans (hb.mono HW.out.size))
  have HX := hid (HX.out.below hb)
  have HC := hid (HC.out.below hb)
  clear hb
  go_wp2_with fail
  refine (verdict_any (fiveS 3) _ 3 4 ⟨0, 4⟩ ⟨4, 4⟩ _ HC.out).mono ?_
  rintro e w1 ⟨rfl, hb⟩
  have HW := hid (HW.out.trans (hb.mono HW.out.size))
  have HX := hid (HX.out.below hb)
  rw [ex_ver2.1, ex_ver2.2]
  clear hb HC
  go_wp2_with fail
  refine (five3_any _).mono ?_
  rintro e w1 ⟨b, rfl, hc, hb⟩
  have HW := hid (HW.out.trans (hb.mono HW.out.size))
  have HX := hid (HX.out.below hb)
  have HC := hid hc
  clear hc hb
  go_wp2_with fail
  refine (sizes_any (fiveS 3) _ 3 4 4 3 _ HC.out).mono ?_
  rintro e w1 ⟨rfl, hb⟩
  have HW := hid (HW.out.trans (hb.mono HW.out.size))
  have HX := hid (HX.out.below hb)
  rw [ex_sizes.1, ex_sizes.2.1, ex_sizes.2.2]
  clear hb HC
  obtain ⟨W2, hW2⟩ : ∃ V, w1.alloc (.cells #[.int .i64 2, .int .i64 2] 29) = V := ⟨_, rfl⟩
  have hb : Below w1.heap.size w1 W2 := by rw [← hW2]; exact (Below.refl _ _).alloc (Nat.le_refl _) _
  have HW := hid (HW.out.trans (hb.mono HW.out.size))
  have HX := hid (HX.out.below hb)
  have HY : Hid (BoxIs w1.heap.size #[.int .i64 2, .int .i64 2] W2) := by show BoxIs _ _ _; rw [← hW2]; exact BoxIs.start _ _ _
  clear hb
  go_wp2_with fail
  refine (five4_any _).mono ?_
  rintro e w1 ⟨b, rfl, hc, hb⟩
  have HW := hid (HW.out.trans (hb.mono HW.out.size))
  have HX := hid (HX.out.below hb)
  have HY := hid (HY.out.below hb)
  have HC := hid hc
  clear hc hb
  clear hW2
  go_wp2_with fail
  refine (first_any (fiveS 4) _ 4 4 _ HC.out).mono ?_
  rintro e w1 ⟨rfl, hb⟩
  have HW := hid (HW.out.trans (hb.mono HW.out.size))
  have HX := hid (HX.out.below hb)
  have HY := hid (HY.out.below hb)
  rw [ex_first.1, ex_first.2]
  clear hb HC
  go_wp2_with fail
  refine (five4_any _).mono ?_
  rintro e w1 ⟨b, rfl, hc, hb⟩
  have HW := hid (HW.out.trans (hb.mono HW.out.size))
  have HX := hid (HX.out.below hb)
  have HY := hid (HY.out.below hb)
  have HC := hid hc
  clear hc hb
  go_wp2_with fail
  refine (leave_any (fiveS 4) _ 4 4 _ HC.out).mono ?_
  rintro e w1 ⟨q1, k1, d1, rfl, _, hx, hb⟩
  have HW := hid (HW.out.trans (hb.mono HW.out.size))
  have HX := hid (HX.out.below hb)
  have HY := hid (HY.out.below hb)
  have hl := hx ex_fault.2.2 [1] ex_leave
  obtain rfl : k1 = 1 := hl.1
  rw [ex_fault.2.2]
  have HL := hid hl
  clear hb HC hx hl
  go_wp2_with fail
  refine (five4_any _).mono ?_
  rintro e w1 ⟨b, rfl, hc, hb⟩
  have HW := hid (HW.out.trans (hb.mono HW.out.size))
  have HX := hid (HX.out.below hb)
  have HY := hid (HY.out.below hb)
  have HL := hid (HL.out.below hb)
  have HC := hid hc
  clear hc hb
  go_wp2_with fail
  refine (clashP_any (fiveS 4) _ 4 4 _ HC.out).mono ?_
  rintro e w1 ⟨q2, k2, d2, rfl, _, hx, hb⟩
  have HW := hid (HW.out.trans (hb.mono HW.out.size))
  have HX := hid (HX.out.below hb)
  have HY := hid (HY.out.below hb)
  have HL := hid (HL.out.below hb)
  have hl := hx ex_fault.2.2 [0, 1, 3] ex_clash.1
  obtain rfl : k2 = 3 := hl.1
  rw [ex_clash.2]
  have HK := hid hl
  clear hb HC hx hl
  go_wp2_with fail
  refine (five2_any _).mono ?_
  rintro e w1 ⟨b, rfl, hc, hb⟩
  have HW := hid (HW.out.trans (hb.mono HW.out.size))
  have HX := hid (HX.out.below hb)
  have HY := hid (HY.out.below hb)
  have HL := hid (HL.out.below hb)
  have HK := hid (HK.out.below hb)
  have HC := hid hc
  clear hc hb
  go_wp2_with fail
  refine (best_any (fiveS 2) _ 2 4 _ HC.out).mono ?_
  rintro e w1 ⟨rfl, hb⟩
  have HW := hid (HW.out.trans (hb.mono HW.out.size))
  have HX := hid (HX.out.below hb)
  have HY := hid (HY.out.below hb)
  have HL := hid (HL.out.below hb)
  have HK := hid (HK.out.below hb)
  rw [ex_best.1, ex_best.2.1, ex_best.2.2, ex_sure.1]
  clear hb HC
  go_wp2_with fail
  refine wp_region_held_drew (S := fun V => Below w1.heap.size w1 V) (by kernel_rfl) ((Below.refl _ _).drew) (fun hS => ?_)
  simp only [List.size_toArray, List.append_eq, List.length_cons, List.length_nil, Nat.reduceAdd, Array.replicate_succ, Array.replicate_zero, List.push_toArray, List.nil_append, List.cons_append]
  refine tkH (i := 0) (v := ?_) (fun V hV => ?_) ?_
  rotate_left
  · go_simp
    try with_reducible rfl
  try simp only [Act.put, List.getElem_toArray, List.getElem_cons_zero, List.setIfInBounds_toArray, List.set_cons_zero, List.set_cons_succ]
  refine tkH (i := 1) (v := ?_) (fun V hV => ?_) ?_
  rotate_left
  · go_simp
    try with_reducible rfl
  try simp only [Act.put, List.getElem_toArray, List.getElem_cons_zero, List.getElem_cons_succ, List.setIfInBounds_toArray, List.set_cons_zero, List.set_cons_succ]
  refine tkH (i := 2) (v := ?_) (fun V hV => ?_) ?_
  rotate_left
  · go_simp
    try with_reducible rfl
  try simp only [Act.put, List.getElem_toArray, List.getElem_cons_zero, List.getElem_cons_succ, List.setIfInBounds_toArray, List.set_cons_zero, List.set_cons_succ]
  refine tkH (i := 3) (v := ?_) (fun V hV => ?_) ?_
  rotate_left
  · go_simp
    try with_reducible rfl
  try simp only [Act.put, List.getElem_toArray, List.getElem_cons_zero, List.getElem_cons_succ, List.setIfInBounds_toArray, List.set_cons_zero, List.set_cons_succ]
  refine tkH (i := 4) (v := ?_) (fun V hV => ?_) ?_
  rotate_left
  · have hX := HX.out.below hV; have e3 := (hX.2 3 (.int .i64 1) rfl).1; have e4 := (hX.2 4 (.int .i64 1) rfl).1; have e5 := (hX.2 5 (.int .i64 2) rfl).1; have e6 := (hX.2 6 (.int .i64 2) rfl).1; have e7 := (hX.2 7 (.int .i64 1) rfl).1; have e8 := (hX.2 8 (.int .i64 1) rfl).1; have e9 := (hX.2 9 (.int .i64 3) rfl).1; have e10 := (hX.2 10 (.int .i64 3) rfl).1; go_simp
    try with_reducible rfl
  try simp only [Act.put, List.getElem_toArray, List.getElem_cons_zero, List.getElem_cons_succ, List.setIfInBounds_toArray, List.set_cons_zero, List.set_cons_succ]
  refine wpAnyH_ready (rs := [5]) (by kernel_rfl) (by simp) ?_
  refine AllReadyH.cons (o := _) rfl (fun K hK => ?_) AllReadyH.nil
  go_simp
  (with_reducible refine (between_any 1 1 _).mono ?_)
  rintro e v5 ⟨rfl, hb⟩
  refine hK.out _ _ (hS.trans (hb.mono hS.size)) (fun hS => ?_)
  clear hK K
  try simp only [List.setIfInBounds_toArray, List.set_cons_zero, List.set_cons_succ]
  as_aux_lemma =>
    refine tkH (i := 6) (v := ?_) (fun V hV => ?_) ?_
    rotate_left
    · go_simp
      try with_reducible rfl
    try simp only [Act.put, List.getElem_toArray, List.getElem_cons_zero, List.getElem_cons_succ, List.setIfInBounds_toArray, List.set_cons_zero, List.set_cons_succ]
    refine tkH (i := 7) (v := ?_) (fun V hV => ?_) ?_
    rotate_left
    · go_simp
      try with_reducible rfl
    try simp only [Act.put, List.getElem_toArray, List.getElem_cons_zero, List.getElem_cons_succ, List.setIfInBounds_toArray, List.set_cons_zero, List.set_cons_succ]
    refine tkH (i := 8) (v := ?_) (fun V hV => ?_) ?_
    rotate_left
    · go_simp
      try with_reducible rfl
    try simp only [Act.put, List.getElem_toArray, List.getElem_cons_zero, List.getElem_cons_succ, List.setIfInBounds_toArray, List.set_cons_zero, List.set_cons_succ]
    refine tkH (i := 9) (v := ?_) (fun V hV => ?_) ?_
    rotate_left
    · go_simp
      try with_reducible rfl
    try simp only [Act.put, List.getElem_toArray, List.getElem_cons_zero, List.getElem_cons_succ, List.setIfInBounds_toArray, List.set_cons_zero, List.set_cons_succ]
    refine tkH (i := 10) (v := ?_) (fun V hV => ?_) ?_
    rotate_left
    · have hX := HX.out.below hV; have e3 := (hX.2 3 (.int .i64 1) rfl).1; have e4 := (hX.2 4 (.int .i64 1) rfl).1; have e5 := (hX.2 5 (.int .i64 2) rfl).1; have e6 := (hX.2 6 (.int .i64 2) rfl).1; have e7 := (hX.2 7 (.int .i64 1) rfl).1; have e8 := (hX.2 8 (.int .i64 1) rfl).1; have e9 := (hX.2 9 (.int .i64 3) rfl).1; have e10 := (hX.2 10 (.int .i64 3) rfl).1; go_simp
      try with_reducible rfl
    try simp only [Act.put, List.getElem_toArray, List.getElem_cons_zero, List.getElem_cons_succ, List.setIfInBounds_toArray, List.set_cons_zero, List.set_cons_succ]
    refine wpAnyH_ready (rs := [11]) (by kernel_rfl) (by simp) ?_
    refine AllReadyH.cons (o := _) rfl (fun K hK => ?_) AllReadyH.nil
    go_simp
    (with_reducible refine (between_any 2 2 _).mono ?_)
    rintro e v11 ⟨rfl, hb⟩
    refine hK.out _ _ (hS.trans (hb.mono hS.size)) (fun hS => ?_)
    clear hK K
    try simp only [List.setIfInBounds_toArray, List.set_cons_zero, List.set_cons_succ]
    as_aux_lemma =>
      refine tkH (i := 12) (v := ?_) (fun V hV => ?_) ?_
      rotate_left
      · go_simp
        try with_reducible rfl
      try simp only [Act.put, List.getElem_toArray, List.getElem_cons_zero, List.getElem_cons_succ, List.setIfInBounds_toArray, List.set_cons_zero, List.set_cons_succ]
      refine tkH (i := 13) (v := ?_) (fun V hV => ?_) ?_
      rotate_left
      · go_simp
        try with_reducible rfl
      try simp only [Act.put, List.getElem_toArray, List.getElem_cons_zero, List.getElem_cons_succ, List.setIfInBounds_toArray, List.set_cons_zero, List.set_cons_succ]
      refine tkH (i := 14) (v := ?_) (fun V hV => ?_) ?_
      rotate_left
      · go_simp
        try with_reducible rfl
      try simp only [Act.put, List.getElem_toArray, List.getElem_cons_zero, List.getElem_cons_succ, List.setIfInBounds_toArray, List.set_cons_zero, List.set_cons_succ]
      refine tkH (i := 15) (v := ?_) (fun V hV => ?_) ?_
      rotate_left
      · go_simp
        try with_reducible rfl
      try simp only [Act.put, List.getElem_toArray, List.getElem_cons_zero, List.getElem_cons_succ, List.setIfInBounds_toArray, List.set_cons_zero, List.set_cons_succ]
      refine tkH (i := 16) (v := ?_) (fun V hV => ?_) ?_
      rotate_left
      · have hX := HX.out.below hV; have e3 := (hX.2 3 (.int .i64 1) rfl).1; have e4 := (hX.2 4 (.int .i64 1) rfl).1; have e5 := (hX.2 5 (.int .i64 2) rfl).1; have e6 := (hX.2 6 (.int .i64 2) rfl).1; have e7 := (hX.2 7 (.int .i64 1) rfl).1; have e8 := (hX.2 8 (.int .i64 1) rfl).1; have e9 := (hX.2 9 (.int .i64 3) rfl).1; have e10 := (hX.2 10 (.int .i64 3) rfl).1; go_simp
        try with_reducible rfl
      try simp only [Act.put, List.getElem_toArray, List.getElem_cons_zero, List.getElem_cons_succ, List.setIfInBounds_toArray, List.set_cons_zero, List.set_cons_succ]
      refine wpAnyH_ready (rs := [17]) (by kernel_rfl) (by simp) ?_
      refine AllReadyH.cons (o := _) rfl (fun K hK => ?_) AllReadyH.nil
      go_simp
      (with_reducible refine (between_any 1 1 _).mono ?_)
      rintro e v17 ⟨rfl, hb⟩
      refine hK.out _ _ (hS.trans (hb.mono hS.size)) (fun hS => ?_)
      clear hK K
      try simp only [List.setIfInBounds_toArray, List.set_cons_zero, List.set_cons_succ]
      as_aux_lemma =>
        refine tkH (i := 18) (v := ?_) (fun V hV => ?_) ?_
        rotate_left
        · go_simp
          try with_reducible rfl
        try simp only [Act.put, List.getElem_toArray, List.getElem_cons_zero, List.getElem_cons_succ, List.setIfInBounds_toArray, List.set_cons_zero, List.set_cons_succ]
        refine tkH (i := 19) (v := ?_) (fun V hV => ?_) ?_
        rotate_left
        · go_simp
          try with_reducible rfl
        try simp only [Act.put, List.getElem_toArray, List.getElem_cons_zero, List.getElem_cons_succ, List.setIfInBounds_toArray, List.set_cons_zero, List.set_cons_succ]
        refine tkH (i := 20) (v := ?_) (fun V hV => ?_) ?_
        rotate_left
        · go_simp
          try with_reducible rfl
        try simp only [Act.put, List.getElem_toArray, List.getElem_cons_zero, List.getElem_cons_succ, List.setIfInBounds_toArray, List.set_cons_zero, List.set_cons_succ]
        refine tkH (i := 21) (v := ?_) (fun V hV => ?_) ?_
        rotate_left
        · go_simp
          try with_reducible rfl
        try simp only [Act.put, List.getElem_toArray, List.getElem_cons_zero, List.getElem_cons_succ, List.setIfInBounds_toArray, List.set_cons_zero, List.set_cons_succ]
        refine tkH (i := 22) (v := ?_) (fun V hV => ?_) ?_
        rotate_left
        · have hX := HX.out.below hV; have e3 := (hX.2 3 (.int .i64 1) rfl).1; have e4 := (hX.2 4 (.int .i64 1) rfl).1; have e5 := (hX.2 5 (.int .i64 2) rfl).1; have e6 := (hX.2 6 (.int .i64 2) rfl).1; have e7 := (hX.2 7 (.int .i64 1) rfl).1; have e8 := (hX.2 8 (.int .i64 1) rfl).1; have e9 := (hX.2 9 (.int .i64 3) rfl).1; have e10 := (hX.2 10 (.int .i64 3) rfl).1; go_simp
          try with_reducible rfl
        try simp only [Act.put, List.getElem_toArray, List.getElem_cons_zero, List.getElem_cons_succ, List.setIfInBounds_toArray, List.set_cons_zero, List.set_cons_succ]
        refine wpAnyH_ready (rs := [23]) (by kernel_rfl) (by simp) ?_
        refine AllReadyH.cons (o := _) rfl (fun K hK => ?_) AllReadyH.nil
        go_simp
        (with_reducible refine (between_any 3 3 _).mono ?_)
        rintro e v23 ⟨rfl, hb⟩
        refine hK.out _ _ (hS.trans (hb.mono hS.size)) (fun hS => ?_)
        clear hK K
        try simp only [List.setIfInBounds_toArray, List.set_cons_zero, List.set_cons_succ]
        as_aux_lemma =>
          refine tkH (i := 24) (v := ?_) (fun V hV => ?_) ?_
          rotate_left
          · go_simp
            try with_reducible rfl
          try simp only [Act.put, List.getElem_toArray, List.getElem_cons_zero, List.getElem_cons_succ, List.setIfInBounds_toArray, List.set_cons_zero, List.set_cons_succ]
          refine tkH (i := 25) (v := ?_) (fun V hV => ?_) ?_
          rotate_left
          · go_simp
            try with_reducible rfl
          try simp only [Act.put, List.getElem_toArray, List.getElem_cons_zero, List.getElem_cons_succ, List.setIfInBounds_toArray, List.set_cons_zero, List.set_cons_succ]
          refine tkH (i := 26) (v := ?_) (fun V hV => ?_) ?_
          rotate_left
          · go_simp
            try with_reducible rfl
          try simp only [Act.put, List.getElem_toArray, List.getElem_cons_zero, List.getElem_cons_succ, List.setIfInBounds_toArray, List.set_cons_zero, List.set_cons_succ]
          refine tkH (i := 27) (v := ?_) (fun V hV => ?_) ?_
          rotate_left
          · go_simp
            try with_reducible rfl
          try simp only [Act.put, List.getElem_toArray, List.getElem_cons_zero, List.getElem_cons_succ, List.setIfInBounds_toArray, List.set_cons_zero, List.set_cons_succ]
          refine tkH (i := 28) (v := ?_) (fun V hV => ?_) ?_
          rotate_left
          · have hX := HX.out.below hV; have e11 := (hX.2 11 (.slice q 3 d) rfl).1; go_simp
            try with_reducible rfl
          try simp only [Act.put, List.getElem_toArray, List.getElem_cons_zero, List.getElem_cons_succ, List.setIfInBounds_toArray, List.set_cons_zero, List.set_cons_succ]
          refine tkH (i := 29) (v := ?_) (fun V hV => ?_) ?_
          rotate_left
          · go_simp
            try with_reducible rfl
          try simp only [Act.put, List.getElem_toArray, List.getElem_cons_zero, List.getElem_cons_succ, List.setIfInBounds_toArray, List.set_cons_zero, List.set_cons_succ]
          refine tkH (i := 30) (v := ?_) (fun V hV => ?_) ?_
          rotate_left
          · go_simp
            try with_reducible rfl
          try simp only [Act.put, List.getElem_toArray, List.getElem_cons_zero, List.getElem_cons_succ, List.setIfInBounds_toArray, List.set_cons_zero, List.set_cons_succ]
          refine tkH (i := 31) (v := ?_) (fun V hV => ?_) ?_
          rotate_left
          · go_simp
            try with_reducible rfl
          try simp only [Act.put, List.getElem_toArray, List.getElem_cons_zero, List.getElem_cons_succ, List.setIfInBounds_toArray, List.set_cons_zero, List.set_cons_succ]
          refine tkH (i := 32) (v := ?_) (fun V hV => ?_) ?_
          rotate_left
          · go_simp
            try with_reducible rfl
          try simp only [Act.put, List.getElem_toArray, List.getElem_cons_zero, List.getElem_cons_succ, List.setIfInBounds_toArray, List.set_cons_zero, List.set_cons_succ]
          refine tkH (i := 33) (v := ?_) (fun V hV => ?_) ?_
          rotate_left
          · go_simp
            try with_reducible rfl
          try simp only [Act.put, List.getElem_toArray, List.getElem_cons_zero, List.getElem_cons_succ, List.setIfInBounds_toArray, List.set_cons_zero, List.set_cons_succ]
          refine tkH (i := 34) (v := ?_) (fun V hV => ?_) ?_
          rotate_left
          · go_simp
            try with_reducible rfl
          try simp only [Act.put, List.getElem_toArray, List.getElem_cons_zero, List.getElem_cons_succ, List.setIfInBounds_toArray, List.set_cons_zero, List.set_cons_succ]
          refine tkH (i := 35) (v := ?_) (fun V hV => ?_) ?_
          rotate_left
          · go_simp
            try with_reducible rfl
          try simp only [Act.put, List.getElem_toArray, List.getElem_cons_zero, List.getElem_cons_succ, List.setIfInBounds_toArray, List.set_cons_zero, List.set_cons_succ]
          refine tkH (i := 36) (v := ?_) (fun V hV => ?_) ?_
          rotate_left
          · go_simp
            try with_reducible rfl
          try simp only [Act.put, List.getElem_toArray, List.getElem_cons_zero, List.getElem_cons_succ, List.setIfInBounds_toArray, List.set_cons_zero, List.set_cons_succ]
          refine tkH (i := 37) (v := ?_) (fun V hV => ?_) ?_
          rotate_left
          · go_simp
            try with_reducible rfl
          try simp only [Act.put, List.getElem_toArray, List.getElem_cons_zero, List.getElem_cons_succ, List.setIfInBounds_toArray, List.set_cons_zero, List.set_cons_succ]
          refine tkH (i := 38) (v := ?_) (fun V hV => ?_) ?_
          rotate_left
          · go_simp
            try with_reducible rfl
          try simp only [Act.put, List.getElem_toArray, List.getElem_cons_zero, List.getElem_cons_succ, List.setIfInBounds_toArray, List.set_cons_zero, List.set_cons_succ]
          refine tkH (i := 39) (v := ?_) (fun V hV => ?_) ?_
          rotate_left
          · go_simp
            try with_reducible rfl
          try simp only [Act.put, List.getElem_toArray, List.getElem_cons_zero, List.getElem_cons_succ, List.setIfInBounds_toArray, List.set_cons_zero, List.set_cons_succ]
          refine tkH (i := 40) (v := ?_) (fun V hV => ?_) ?_
          rotate_left
          · go_simp
            try with_reducible rfl
          try simp only [Act.put, List.getElem_toArray, List.getElem_cons_zero, List.getElem_cons_succ, List.setIfInBounds_toArray, List.set_cons_zero, List.set_cons_succ]
          refine tkH (i := 41) (v := ?_) (fun V hV => ?_) ?_
          rotate_left
          · go_simp
            try with_reducible rfl
          try simp only [Act.put, List.getElem_toArray, List.getElem_cons_zero, List.getElem_cons_succ, List.setIfInBounds_toArray, List.set_cons_zero, List.set_cons_succ]
          refine tkH (i := 42) (v := ?_) (fun V hV => ?_) ?_
          rotate_left
          · go_simp
            try with_reducible rfl
          try simp only [Act.put, List.getElem_toArray, List.getElem_cons_zero, List.getElem_cons_succ, List.setIfInBounds_toArray, List.set_cons_zero, List.set_cons_succ]
          refine tkH (i := 43) (v := ?_) (fun V hV => ?_) ?_
          rotate_left
          · go_simp
            try with_reducible rfl
          try simp only [Act.put, List.getElem_toArray, List.getElem_cons_zero, List.getElem_cons_succ, List.setIfInBounds_toArray, List.set_cons_zero, List.set_cons_succ]
          refine tkH (i := 44) (v := ?_) (fun V hV => ?_) ?_
          rotate_left
          · go_simp
            try with_reducible rfl
          try simp only [Act.put, List.getElem_toArray, List.getElem_cons_zero, List.getElem_cons_succ, List.setIfInBounds_toArray, List.set_cons_zero, List.set_cons_succ]
          refine tkH (i := 45) (v := ?_) (fun V hV => ?_) ?_
          rotate_left
          · go_simp
            try with_reducible rfl
          try simp only [Act.put, List.getElem_toArray, List.getElem_cons_zero, List.getElem_cons_succ, List.setIfInBounds_toArray, List.set_cons_zero, List.set_cons_succ]
          refine tkH (i := 46) (v := ?_) (fun V hV => ?_) ?_
          rotate_left
          · go_simp
            try with_reducible rfl
          try simp only [Act.put, List.getElem_toArray, List.getElem_cons_zero, List.getElem_cons_succ, List.setIfInBounds_toArray, List.set_cons_zero, List.set_cons_succ]
          refine tkH (i := 47) (v := ?_) (fun V hV => ?_) ?_
          rotate_left
          · go_simp
            try with_reducible rfl
          try simp only [Act.put, List.getElem_toArray, List.getElem_cons_zero, List.getElem_cons_succ, List.setIfInBounds_toArray, List.set_cons_zero, List.set_cons_succ]
          refine tkH (i := 48) (v := ?_) (fun V hV => ?_) ?_
          rotate_left
          · go_simp
            try with_reducible rfl
          try simp only [Act.put, List.getElem_toArray, List.getElem_cons_zero, List.getElem_cons_succ, List.setIfInBounds_toArray, List.set_cons_zero, List.set_cons_succ]
          refine tkH (i := 49) (v := ?_) (fun V hV => ?_) ?_
          rotate_left
          · go_simp
            try with_reducible rfl
          try simp only [Act.put, List.getElem_toArray, List.getElem_cons_zero, List.getElem_cons_succ, List.setIfInBounds_toArray, List.set_cons_zero, List.set_cons_succ]
          refine tkH (i := 50) (v := ?_) (fun V hV => ?_) ?_
          rotate_left
          · go_simp
            try with_reducible rfl
          try simp only [Act.put, List.getElem_toArray, List.getElem_cons_zero, List.getElem_cons_succ, List.setIfInBounds_toArray, List.set_cons_zero, List.set_cons_succ]
          refine tkH (i := 51) (v := ?_) (fun V hV => ?_) ?_
          rotate_left
          · go_simp
            try with_reducible rfl
          try simp only [Act.put, List.getElem_toArray, List.getElem_cons_zero, List.getElem_cons_succ, List.setIfInBounds_toArray, List.set_cons_zero, List.set_cons_succ]
          refine tkH (i := 52) (v := ?_) (fun V hV => ?_) ?_
          rotate_left
          · go_simp
            try with_reducible rfl
          try simp only [Act.put, List.getElem_toArray, List.getElem_cons_zero, List.getElem_cons_succ, List.setIfInBounds_toArray, List.set_cons_zero, List.set_cons_succ]
          refine tkH (i := 53) (v := ?_) (fun V hV => ?_) ?_
          rotate_left
          · have hX := HY.out.below hV; have e0 := (hX.2 0 (.int .i64 2) rfl).1; have e1 := (hX.2 1 (.int .i64 2) rfl).1; go_simp
            try with_reducible rfl
          try simp only [Act.put, List.getElem_toArray, List.getElem_cons_zero, List.getElem_cons_succ, List.setIfInBounds_toArray, List.set_cons_zero, List.set_cons_succ]
          refine wpAnyH_ready (rs := [54]) (by kernel_rfl) (by simp) ?_
          refine AllReadyH.cons (o := _) rfl (fun K hK => ?_) AllReadyH.nil
          go_simp
          (with_reducible refine (between_any 2 2 _).mono ?_)
          rintro e v54 ⟨rfl, hb⟩
          refine hK.out _ _ (hS.trans (hb.mono hS.size)) (fun hS => ?_)
          clear hK K
          try simp only [List.setIfInBounds_toArray, List.set_cons_zero, List.set_cons_succ]
          as_aux_lemma =>
            refine tkH (i := 55) (v := ?_) (fun V hV => ?_) ?_
            rotate_left
            · go_simp
              try with_reducible rfl
            try simp only [Act.put, List.getElem_toArray, List.getElem_cons_zero, List.getElem_cons_succ, List.setIfInBounds_toArray, List.set_cons_zero, List.set_cons_succ]
            refine tkH (i := 56) (v := ?_) (fun V hV => ?_) ?_
            rotate_left
            · go_simp
              try with_reducible rfl
            try simp only [Act.put, List.getElem_toArray, List.getElem_cons_zero, List.getElem_cons_succ, List.setIfInBounds_toArray, List.set_cons_zero, List.set_cons_succ]
            refine tkH (i := 57) (v := ?_) (fun V hV => ?_) ?_
            rotate_left
            · go_simp
              try with_reducible rfl
            try simp only [Act.put, List.getElem_toArray, List.getElem_cons_zero, List.getElem_cons_succ, List.setIfInBounds_toArray, List.set_cons_zero, List.set_cons_succ]
            refine tkH (i := 58) (v := ?_) (fun V hV => ?_) ?_
            rotate_left
            · go_simp
              try with_reducible rfl
            try simp only [Act.put, List.getElem_toArray, List.getElem_cons_zero, List.getElem_cons_succ, List.setIfInBounds_toArray, List.set_cons_zero, List.set_cons_succ]
            refine tkH (i := 59) (v := ?_) (fun V hV => ?_) ?_
            rotate_left
            · go_simp
              try with_reducible rfl
            try simp only [Act.put, List.getElem_toArray, List.getElem_cons_zero, List.getElem_cons_succ, List.setIfInBounds_toArray, List.set_cons_zero, List.set_cons_succ]
            refine tkH (i := 60) (v := ?_) (fun V hV => ?_) ?_
            rotate_left
            · go_simp
              try with_reducible rfl
            try simp only [Act.put, List.getElem_toArray, List.getElem_cons_zero, List.getElem_cons_succ, List.setIfInBounds_toArray, List.set_cons_zero, List.set_cons_succ]
            refine tkH (i := 61) (v := ?_) (fun V hV => ?_) ?_
            rotate_left
            · go_simp
              try with_reducible rfl
            try simp only [Act.put, List.getElem_toArray, List.getElem_cons_zero, List.getElem_cons_succ, List.setIfInBounds_toArray, List.set_cons_zero, List.set_cons_succ]
            refine tkH (i := 62) (v := ?_) (fun V hV => ?_) ?_
            rotate_left
            · go_simp
              try with_reducible rfl
            try simp only [Act.put, List.getElem_toArray, List.getElem_cons_zero, List.getElem_cons_succ, List.setIfInBounds_toArray, List.set_cons_zero, List.set_cons_succ]
            refine tkH (i := 63) (v := ?_) (fun V hV => ?_) ?_
            rotate_left
            · go_simp
              try with_reducible rfl
            try simp only [Act.put, List.getElem_toArray, List.getElem_cons_zero, List.getElem_cons_succ, List.setIfInBounds_toArray, List.set_cons_zero, List.set_cons_succ]
            refine tkH (i := 64) (v := ?_) (fun V hV => ?_) ?_
            rotate_left
            · go_simp
              try with_reducible rfl
            try simp only [Act.put, List.getElem_toArray, List.getElem_cons_zero, List.getElem_cons_succ, List.setIfInBounds_toArray, List.set_cons_zero, List.set_cons_succ]
            refine tkH (i := 65) (v := ?_) (fun V hV => ?_) ?_
            rotate_left
            · go_simp
              try with_reducible rfl
            try simp only [Act.put, List.getElem_toArray, List.getElem_cons_zero, List.getElem_cons_succ, List.setIfInBounds_toArray, List.set_cons_zero, List.set_cons_succ]
            refine tkH (i := 66) (v := ?_) (fun V hV => ?_) ?_
            rotate_left
            · go_simp
              try with_reducible rfl
            try simp only [Act.put, List.getElem_toArray, List.getElem_cons_zero, List.getElem_cons_succ, List.setIfInBounds_toArray, List.set_cons_zero, List.set_cons_succ]
            refine tkH (i := 67) (v := ?_) (fun V hV => ?_) ?_
            rotate_left
            · go_simp
              try with_reducible rfl
            try simp only [Act.put, List.getElem_toArray, List.getElem_cons_zero, List.getElem_cons_succ, List.setIfInBounds_toArray, List.set_cons_zero, List.set_cons_succ]
            refine tkH (i := 68) (v := ?_) (fun V hV => ?_) ?_
            rotate_left
            · go_simp
              try with_reducible rfl
            try simp only [Act.put, List.getElem_toArray, List.getElem_cons_zero, List.getElem_cons_succ, List.setIfInBounds_toArray, List.set_cons_zero, List.set_cons_succ]
            refine tkH (i := 69) (v := ?_) (fun V hV => ?_) ?_
            rotate_left
            · go_simp
              try with_reducible rfl
            try simp only [Act.put, List.getElem_toArray, List.getElem_cons_zero, List.getElem_cons_succ, List.setIfInBounds_toArray, List.set_cons_zero, List.set_cons_succ]
            refine tkH (i := 70) (v := ?_) (fun V hV => ?_) ?_
            rotate_left
            · go_simp
              try with_reducible rfl
            try simp only [Act.put, List.getElem_toArray, List.getElem_cons_zero, List.getElem_cons_succ, List.setIfInBounds_toArray, List.set_cons_zero, List.set_cons_succ]
            refine wpAnyH_ready (rs := [71]) (by kernel_rfl) (by simp) ?_
            refine AllReadyH.cons (o := _) rfl (fun K hK => ?_) AllReadyH.nil
            obtain ⟨v71, hv71⟩ : ∃ V, v54.alloc (.cells #[.int .i64 1] 3) = V := ⟨_, rfl⟩
            have HI71 : Hid (IntsAt v71 (some ⟨v54.heap.size, 0, none⟩) 1 [1]) := by show IntsAt _ _ _ _; rw [← hv71]; exact lit_ints v54 [1]
            have hb : Below v54.heap.size v54 v71 := by rw [← hv71]; exact (Below.refl _ _).alloc (Nat.le_refl _) _
            have hS2 := hS.trans (hb.mono hS.size)
            go_simp
            refine hK.out _ _ (hS2) (fun hS => ?_)
            clear hK K
            try simp only [List.setIfInBounds_toArray, List.set_cons_zero, List.set_cons_succ]
            as_aux_lemma =>
              refine wpAnyH_ready (rs := [72]) (by kernel_rfl) (by simp) ?_
              refine AllReadyH.cons (o := _) rfl (fun K hK => ?_) AllReadyH.nil
              go_simp
              (with_reducible refine (ints_any _ _ _ [1] _ _ _ [1] _ (HL.out.below hS) HI71.out (by decide) (by decide)).mono ?_)
              rintro e v72 ⟨rfl, hb⟩
              rw [show decide (([1] : List Int) = [1]) = true from by decide]
              refine hK.out _ _ (hS.trans (hb.mono hS.size)) (fun hS => ?_)
              clear hK K
              try simp only [List.setIfInBounds_toArray, List.set_cons_zero, List.set_cons_succ]
              as_aux_lemma =>
                refine tkH (i := 73) (v := ?_) (fun V hV => ?_) ?_
                rotate_left
                · go_simp
                  try with_reducible rfl
                try simp only [Act.put, List.getElem_toArray, List.getElem_cons_zero, List.getElem_cons_succ, List.setIfInBounds_toArray, List.set_cons_zero, List.set_cons_succ]
                refine tkH (i := 74) (v := ?_) (fun V hV => ?_) ?_
                rotate_left
                · go_simp
                  try with_reducible rfl
                try simp only [Act.put, List.getElem_toArray, List.getElem_cons_zero, List.getElem_cons_succ, List.setIfInBounds_toArray, List.set_cons_zero, List.set_cons_succ]
                refine tkH (i := 75) (v := ?_) (fun V hV => ?_) ?_
                rotate_left
                · go_simp
                  try with_reducible rfl
                try simp only [Act.put, List.getElem_toArray, List.getElem_cons_zero, List.getElem_cons_succ, List.setIfInBounds_toArray, List.set_cons_zero, List.set_cons_succ]
                refine tkH (i := 76) (v := ?_) (fun V hV => ?_) ?_
                rotate_left
                · go_simp
                  try with_reducible rfl
                try simp only [Act.put, List.getElem_toArray, List.getElem_cons_zero, List.getElem_cons_succ, List.setIfInBounds_toArray, List.set_cons_zero, List.set_cons_succ]
                refine tkH (i := 77) (v := ?_) (fun V hV => ?_) ?_
                rotate_left
                · go_simp
                  try with_reducible rfl
                try simp only [Act.put, List.getElem_toArray, List.getElem_cons_zero, List.getElem_cons_succ, List.setIfInBounds_toArray, List.set_cons_zero, List.set_cons_succ]
                refine tkH (i := 78) (v := ?_) (fun V hV => ?_) ?_
                rotate_left
                · go_simp
                  try with_reducible rfl
                try simp only [Act.put, List.getElem_toArray, List.getElem_cons_zero, List.getElem_cons_succ, List.setIfInBounds_toArray, List.set_cons_zero, List.set_cons_succ]
                refine tkH (i := 79) (v := ?_) (fun V hV => ?_) ?_
                rotate_left
                · go_simp
                  try with_reducible rfl
                try simp only [Act.put, List.getElem_toArray, List.getElem_cons_zero, List.getElem_cons_succ, List.setIfInBounds_toArray, List.set_cons_zero, List.set_cons_succ]
                refine wpAnyH_ready (rs := [80]) (by kernel_rfl) (by simp) ?_
                refine AllReadyH.cons (o := _) rfl (fun K hK => ?_) AllReadyH.nil
                obtain ⟨v80, hv80⟩ : ∃ V, v72.alloc (.cells #[.int .i64 0, .int .i64 1, .int .i64 3] 3) = V := ⟨_, rfl⟩
                have HI80 : Hid (IntsAt v80 (some ⟨v72.heap.size, 0, none⟩) 3 [0, 1, 3]) := by show IntsAt _ _ _ _; rw [← hv80]; exact lit_ints v72 [0, 1, 3]
                have hb : Below v72.heap.size v72 v80 := by rw [← hv80]; exact (Below.refl _ _).alloc (Nat.le_refl _) _
                have hS2 := hS.trans (hb.mono hS.size)
                go_simp
                refine hK.out _ _ (hS2) (fun hS => ?_)
                clear hK K
                try simp only [List.setIfInBounds_toArray, List.set_cons_zero, List.set_cons_succ]
                as_aux_lemma =>
                  refine wpAnyH_ready (rs := [81]) (by kernel_rfl) (by simp) ?_
                  refine AllReadyH.cons (o := _) rfl (fun K hK => ?_) AllReadyH.nil
                  go_simp
                  (with_reducible refine (ints_any _ _ _ [0, 1, 3] _ _ _ [0, 1, 3] _ (HK.out.below hS) HI80.out (by decide) (by decide)).mono ?_)
                  rintro e v81 ⟨rfl, hb⟩
                  rw [show decide (([0, 1, 3] : List Int) = [0, 1, 3]) = true from by decide]
                  refine hK.out _ _ (hS.trans (hb.mono hS.size)) (fun hS => ?_)
                  clear hK K
                  try simp only [List.setIfInBounds_toArray, List.set_cons_zero, List.set_cons_succ]
                  as_aux_lemma =>
                    refine tkH (i := 82) (v := ?_) (fun V hV => ?_) ?_
                    rotate_left
                    · go_simp
                      try with_reducible rfl
                    try simp only [Act.put, List.getElem_toArray, List.getElem_cons_zero, List.getElem_cons_succ, List.setIfInBounds_toArray, List.set_cons_zero, List.set_cons_succ]
                    refine tkH (i := 83) (v := ?_) (fun V hV => ?_) ?_
                    rotate_left
                    · go_simp
                      try with_reducible rfl
                    try simp only [Act.put, List.getElem_toArray, List.getElem_cons_zero, List.getElem_cons_succ, List.setIfInBounds_toArray, List.set_cons_zero, List.set_cons_succ]
                    refine tkH (i := 84) (v := ?_) (fun V hV => ?_) ?_
                    rotate_left
                    · go_simp
                      try with_reducible rfl
                    try simp only [Act.put, List.getElem_toArray, List.getElem_cons_zero, List.getElem_cons_succ, List.setIfInBounds_toArray, List.set_cons_zero, List.set_cons_succ]
                    refine tkH (i := 85) (v := ?_) (fun V hV => ?_) ?_
                    rotate_left
                    · go_simp
                      try with_reducible rfl
                    try simp only [Act.put, List.getElem_toArray, List.getElem_cons_zero, List.getElem_cons_succ, List.setIfInBounds_toArray, List.set_cons_zero, List.set_cons_succ]
                    refine tkH (i := 86) (v := ?_) (fun V hV => ?_) ?_
                    rotate_left
                    · go_simp
                      try with_reducible rfl
                    try simp only [Act.put, List.getElem_toArray, List.getElem_cons_zero, List.getElem_cons_succ, List.setIfInBounds_toArray, List.set_cons_zero, List.set_cons_succ]
                    refine tkH (i := 87) (v := ?_) (fun V hV => ?_) ?_
                    rotate_left
                    · go_simp
                      try with_reducible rfl
                    try simp only [Act.put, List.getElem_toArray, List.getElem_cons_zero, List.getElem_cons_succ, List.setIfInBounds_toArray, List.set_cons_zero, List.set_cons_succ]
                    refine tkH (i := 88) (v := ?_) (fun V hV => ?_) ?_
                    rotate_left
                    · go_simp
                      try with_reducible rfl
                    try simp only [Act.put, List.getElem_toArray, List.getElem_cons_zero, List.getElem_cons_succ, List.setIfInBounds_toArray, List.set_cons_zero, List.set_cons_succ]
                    refine tkH (i := 89) (v := ?_) (fun V hV => ?_) ?_
                    rotate_left
                    · go_simp
                      try with_reducible rfl
                    try simp only [Act.put, List.getElem_toArray, List.getElem_cons_zero, List.getElem_cons_succ, List.setIfInBounds_toArray, List.set_cons_zero, List.set_cons_succ]
                    refine tkH (i := 90) (v := ?_) (fun V hV => ?_) ?_
                    rotate_left
                    · go_simp
                      try with_reducible rfl
                    try simp only [Act.put, List.getElem_toArray, List.getElem_cons_zero, List.getElem_cons_succ, List.setIfInBounds_toArray, List.set_cons_zero, List.set_cons_succ]
                    refine tkH (i := 91) (v := ?_) (fun V hV => ?_) ?_
                    rotate_left
                    · go_simp
                      try with_reducible rfl
                    try simp only [Act.put, List.getElem_toArray, List.getElem_cons_zero, List.getElem_cons_succ, List.setIfInBounds_toArray, List.set_cons_zero, List.set_cons_succ]
                    refine tkH (i := 92) (v := ?_) (fun V hV => ?_) ?_
                    rotate_left
                    · go_simp
                      try with_reducible rfl
                    try simp only [Act.put, List.getElem_toArray, List.getElem_cons_zero, List.getElem_cons_succ, List.setIfInBounds_toArray, List.set_cons_zero, List.set_cons_succ]
                    refine tkH (i := 93) (v := ?_) (fun V hV => ?_) ?_
                    rotate_left
                    · go_simp
                      try with_reducible rfl
                    try simp only [Act.put, List.getElem_toArray, List.getElem_cons_zero, List.getElem_cons_succ, List.setIfInBounds_toArray, List.set_cons_zero, List.set_cons_succ]
                    refine tkH (i := 94) (v := ?_) (fun V hV => ?_) ?_
                    rotate_left
                    · go_simp
                      try with_reducible rfl
                    try simp only [Act.put, List.getElem_toArray, List.getElem_cons_zero, List.getElem_cons_succ, List.setIfInBounds_toArray, List.set_cons_zero, List.set_cons_succ]
                    refine tkH (i := 95) (v := ?_) (fun V hV => ?_) ?_
                    rotate_left
                    · go_simp
                      try with_reducible rfl
                    try simp only [Act.put, List.getElem_toArray, List.getElem_cons_zero, List.getElem_cons_succ, List.setIfInBounds_toArray, List.set_cons_zero, List.set_cons_succ]
                    refine tkH (i := 96) (v := ?_) (fun V hV => ?_) ?_
                    rotate_left
                    · go_simp
                      try with_reducible rfl
                    try simp only [Act.put, List.getElem_toArray, List.getElem_cons_zero, List.getElem_cons_succ, List.setIfInBounds_toArray, List.set_cons_zero, List.set_cons_succ]
                    refine tkH (i := 97) (v := ?_) (fun V hV => ?_) ?_
                    rotate_left
                    · go_simp
                      try with_reducible rfl
                    try simp only [Act.put, List.getElem_toArray, List.getElem_cons_zero, List.getElem_cons_succ, List.setIfInBounds_toArray, List.set_cons_zero, List.set_cons_succ]
                    refine tkH (i := 98) (v := ?_) (fun V hV => ?_) ?_
                    rotate_left
                    · go_simp
                      try with_reducible rfl
                    try simp only [Act.put, List.getElem_toArray, List.getElem_cons_zero, List.getElem_cons_succ, List.setIfInBounds_toArray, List.set_cons_zero, List.set_cons_succ]
                    refine tkH (i := 99) (v := ?_) (fun V hV => ?_) ?_
                    rotate_left
                    · go_simp
                      try with_reducible rfl
                    try simp only [Act.put, List.getElem_toArray, List.getElem_cons_zero, List.getElem_cons_succ, List.setIfInBounds_toArray, List.set_cons_zero, List.set_cons_succ]
                    refine wpAnyH_done (by kernel_rfl) ?_ _
                    go_wp2_with fail
                    go_ret
                    exact ⟨rfl, HW.out.trans (hS.mono HW.out.size)⟩
end Go.Proofs.Ytfnefkenheglhaa
