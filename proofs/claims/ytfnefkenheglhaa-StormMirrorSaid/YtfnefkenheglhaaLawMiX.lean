/- StormMirror: if the grid is turned upside down, with the cards, A and B, all verdicts and sizes are those of the mirrored places. For each storm and each word. -/
import Derived.Test.YtfnefkenheglhaaPlMR
import Derived.Test.YtfnefkenheglhaaLawC
import Derived.Test.YtfnefkenheglhaaLawAwake
namespace Go.Proofs.Ytfnefkenheglhaa
open Go.RowKit

theorem mir_e {s : Sto} (ok : OkS s) : sureE s true = 0 ∨ sureE s true = 11 := by
  rw [sureE, if_pos (fault_iff.2 ok), if_pos rfl]
  split
  · exact .inr rfl
  · exact .inl rfl
theorem mir_true {s : Sto} (ok : OkS s) : sureE (flipS s) true = sureE s true := by
  rw [sureE, sureE, if_pos (fault_iff.2 ok), if_pos (fault_iff.2 (flip_ok ok)), if_pos rfl, if_pos rfl]
  by_cases h : truthL s = []
  · rw [if_pos h, if_pos (flip_nil.2 h)]
  · rw [if_neg h, if_neg (fun k => h (flip_nil.1 k))]
theorem mir_ne {s : Sto} (ok : OkS s) (h : sureE s true = 0) : truthL s ≠ [] := by
  rw [sureE, if_pos (fault_iff.2 ok), if_pos rfl] at h
  intro k
  rw [if_pos k] at h
  cases h
theorem mir_verd {s : Sto} (ok : OkS s) {x y : Rng} (hr : rectB s x y = true) : verdV (flipS s) x (flipR y s.high) = verdV s x y := by
  unfold verdV
  rw [flip_rect, hr, mir_true ok]
  by_cases h : sureE s true = 0
  · rw [if_pos h, if_pos h, flip_verd]
  · rw [if_neg h, if_neg h]
theorem mir_fine (s : Sto) (x y : Int) : fineS (flipS s) x (s.high - 1 - y) = fineS s x y := by
  show (inB x 0 (s.wide - 1) && inB (s.high - 1 - y) 0 (s.high - 1)) = (inB x 0 (s.wide - 1) && inB y 0 (s.high - 1))
  congr 1
  rw [Bool.eq_iff_iff, inB_iff, inB_iff]
  omega
theorem mir_size {s : Sto} (ok : OkS s) {x y : Int} (hf : fineS s x y = true) : sizesV (flipS s) x (s.high - 1 - y) = sizesV s x y := by
  unfold sizesV
  rw [mir_fine, hf, mir_true ok]
  by_cases h : sureE s true = 0
  · rw [if_pos h, if_pos h, flip_sizes x y (mir_ne ok h)]
  · rw [if_neg h, if_neg h]

set_option maxRecDepth 40000 in
set_option maxHeartbeats 16000000 in
theorem stormMirror_any (s : Sto) (p : Option Addr) (n c : Nat) (wv : Int) (w : World) (hcs : CrdsAt w p n s.cards) (hwv : 0 ≤ wv ∧ wv ≤ 65535) :
    Calls Try.prog 12 #[.agg #[.int .i64 s.wide, .int .i64 s.high, .int .i64 s.fall, .int .i64 s.a.lo, .int .i64 s.a.hi, .int .i64 s.b.lo, .int .i64 s.b.hi, .int .i64 s.half.lo, .int .i64 s.half.hi, .int .i64 s.peak.lo, .int .i64 s.peak.hi, .slice p n c], .int .u16 wv] w fun e w' => e = .returned (.bool true) ∧ Below w.heap.size w w' := by
  have HC := hid hcs
  have HRD := hid (fun W (hb : Below w.heap.size w W) => ready_any s p n c W (hcs.below hb))
  have HWV := hid hwv
  clear hcs hwv
  have H0 : Hid (Boxed1 w #[.int .i64 s.wide, .int .i64 s.high, .int .i64 s.fall, .int .i64 s.a.lo, .int .i64 s.a.hi, .int .i64 s.b.lo, .int .i64 s.b.hi, .int .i64 s.half.lo, .int .i64 s.half.hi, .int .i64 s.peak.lo, .int .i64 s.peak.hi, .slice p n c] 26 (w.alloc (.cells #[.int .i64 s.wide, .int .i64 s.high, .int .i64 s.fall, .int .i64 s.a.lo, .int .i64 s.a.hi, .int .i64 s.b.lo, .int .i64 s.b.hi, .int .i64 s.half.lo, .int .i64 s.half.hi, .int .i64 s.peak.lo, .int .i64 s.peak.hi, .slice p n c] 26))) := Boxed1.start _ _ _
  go_enter Try.func12, Try.ntmps12
  go_wp2_with fail
  (with_reducible refine (HRD.out _ ?_).mono ?_)
  · exact H0.out.below
  rintro e w1 ⟨rfl, hb⟩
  have H1 := hid (H0.out.step hb)
  clear hb
  cases hrd : readyB s
  · clear hrd
    go_wp2_with fail
    refine (awake_any _).mono ?_
    rintro e w99 ⟨rfl, hb⟩
    go_wp2_with fail
    go_ret
    exact ⟨rfl, H1.out.below.trans (hb.mono H1.out.below.size)⟩
  · have HOK := hid (ready_iff.1 hrd).1
    have hn6 : n ≤ 6 := by have := HC.out.1; have := HOK.out.n6; omega
    have HN9 : Hid (n ≤ 1000) := hid (by omega)
    have HRC := hid (box_in HOK.out HWV.out.1)
    have HOX := hid (flip_ok HOK.out)
    clear hrd
    have q1 := HOK.out.w2; have q2 := HOK.out.w12; have q3 := HOK.out.h1; have q4 := HOK.out.h12
    have HRG : Hid ((0 ≤ s.a.lo ∧ s.a.lo ≤ 11 ∧ 0 ≤ s.a.hi ∧ s.a.hi ≤ 11) ∧ (0 ≤ s.b.lo ∧ s.b.lo ≤ 11 ∧ 0 ≤ s.b.hi ∧ s.b.hi ≤ 11)) := hid (by have a := Rng.of_iff.1 HOK.out.a; have b := Rng.of_iff.1 HOK.out.b; omega)
    have e0 := (StoAt.of H1.out.cell).c0; have e1 := (StoAt.of H1.out.cell).c1; have e2 := (StoAt.of H1.out.cell).c2; have e3 := (StoAt.of H1.out.cell).c3; have e4 := (StoAt.of H1.out.cell).c4; have e5 := (StoAt.of H1.out.cell).c5; have e6 := (StoAt.of H1.out.cell).c6; have e7 := (StoAt.of H1.out.cell).c7; have e8 := (StoAt.of H1.out.cell).c8; have e9 := (StoAt.of H1.out.cell).c9; have e10 := (StoAt.of H1.out.cell).c10; have e11 := (StoAt.of H1.out.cell).c11
    obtain ⟨w2, hw2⟩ : ∃ V, (w1.alloc (.cells #[.int .i64 s.wide, .int .i64 s.high, .int .i64 s.fall, .int .i64 s.a.lo, .int .i64 s.a.hi, .int .i64 s.b.lo, .int .i64 s.b.hi, .int .i64 s.half.lo, .int .i64 s.half.hi, .int .i64 s.peak.lo, .int .i64 s.peak.hi, .slice p n c] 26)) = V := ⟨_, rfl⟩
    have H2 : Hid (Boxed1 w #[.int .i64 s.wide, .int .i64 s.high, .int .i64 s.fall, .int .i64 s.a.lo, .int .i64 s.a.hi, .int .i64 s.b.lo, .int .i64 s.b.hi, .int .i64 s.half.lo, .int .i64 s.half.hi, .int .i64 s.peak.lo, .int .i64 s.peak.hi, .slice p n c] 26 w2) := by show Boxed1 w #[.int .i64 s.wide, .int .i64 s.high, .int .i64 s.fall, .int .i64 s.a.lo, .int .i64 s.a.hi, .int .i64 s.b.lo, .int .i64 s.b.hi, .int .i64 s.half.lo, .int .i64 s.half.hi, .int .i64 s.peak.lo, .int .i64 s.peak.hi, .slice p n c] 26 w2; rw [← hw2]; exact H1.out.alloc _
    have HX : Hid (BoxIs w1.heap.size #[.int .i64 s.wide, .int .i64 s.high, .int .i64 s.fall, .int .i64 s.a.lo, .int .i64 s.a.hi, .int .i64 s.b.lo, .int .i64 s.b.hi, .int .i64 s.half.lo, .int .i64 s.half.hi, .int .i64 s.peak.lo, .int .i64 s.peak.hi, .slice p n c] w2) := by show BoxIs _ _ _; rw [← hw2]; exact BoxIs.start _ _ _
    have HBB : Hid (Below w1.heap.size w1 w2) := hid (by rw [← hw2]; exact (Below.refl _ _).alloc (Nat.le_refl _) _)
    go_upto_region 4 with fail
    clear hw2 HBB e0 e1 e2 e3 e4 e5 e6 e7 e8 e9 e10 e11
    have HLX : Hid (w.heap.size + 1 ≤ w1.heap.size) := hid H1.out.size
    have HXL : Hid (w1.heap.size < w2.heap.size) := hid HX.out.1
    refine wp_region_held_drew (S := fun V => Boxed1 w #[.int .i64 s.wide, .int .i64 s.high, .int .i64 s.fall, .int .i64 s.a.lo, .int .i64 s.a.hi, .int .i64 s.b.lo, .int .i64 s.b.hi, .int .i64 s.half.lo, .int .i64 s.half.hi, .int .i64 s.peak.lo, .int .i64 s.peak.hi, .slice p n c] 26 V ∧ Below w1.heap.size w2 V) (by kernel_rfl) (⟨H2.out.drew, (Below.refl _ _).drew⟩) (fun hS => ?_)
    simp only [List.size_toArray, List.length_cons, List.length_nil, Nat.reduceAdd, Array.replicate_succ, Array.replicate_zero, List.push_toArray, List.nil_append, List.cons_append]
    refine wpAnyH_take (i := 0) (v := ?_) rfl (by kernel_rfl) (by kernel_rfl) (by kernel_rfl) (fun _ _ _ h => h) (Or.inl ⟨by rfl, fun V hV => ?_⟩) (by assumption) ?_
    rotate_left
    · go_simp
      try with_reducible rfl
    try simp only [Act.put, List.getElem_toArray, List.getElem_cons_zero, List.setIfInBounds_toArray, List.set_cons_zero, List.set_cons_succ]
    refine wpAnyH_take (i := 1) (v := ?_) rfl (by kernel_rfl) (by kernel_rfl) (by kernel_rfl) (fun _ _ _ h => h) (Or.inl ⟨by rfl, fun V hV => ?_⟩) (by assumption) ?_
    rotate_left
    · have e1 := (StoAt.of hV.1.cell).c1; have e3 := (StoAt.of hV.1.cell).c3; have e4 := (StoAt.of hV.1.cell).c4; have e5 := (StoAt.of hV.1.cell).c5; have e6 := (StoAt.of hV.1.cell).c6; go_simp
      try with_reducible rfl
    try simp only [Act.put, List.getElem_toArray, List.getElem_cons_zero, List.getElem_cons_succ, List.setIfInBounds_toArray, List.set_cons_zero, List.set_cons_succ]
    refine wpAnyH_take (i := 2) (v := ?_) rfl (by kernel_rfl) (by kernel_rfl) (by kernel_rfl) (fun _ _ _ h => h) (Or.inl ⟨by rfl, fun V hV => ?_⟩) (by assumption) ?_
    rotate_left
    · go_simp
      try with_reducible rfl
    try simp only [Act.put, List.getElem_toArray, List.getElem_cons_zero, List.getElem_cons_succ, List.setIfInBounds_toArray, List.set_cons_zero, List.set_cons_succ]
    refine wpAnyH_take (i := 3) (v := ?_) rfl (by kernel_rfl) (by kernel_rfl) (by kernel_rfl) (fun _ _ _ h => h) (Or.inl ⟨by rfl, fun V hV => ?_⟩) (by assumption) ?_
    rotate_left
    · have e1 := (StoAt.of hV.1.cell).c1; have e3 := (StoAt.of hV.1.cell).c3; have e4 := (StoAt.of hV.1.cell).c4; have e5 := (StoAt.of hV.1.cell).c5; have e6 := (StoAt.of hV.1.cell).c6; go_simp
      try with_reducible rfl
    try simp only [Act.put, List.getElem_toArray, List.getElem_cons_zero, List.getElem_cons_succ, List.setIfInBounds_toArray, List.set_cons_zero, List.set_cons_succ]
    refine wpAnyH_take (i := 5) (v := ?_) rfl (by kernel_rfl) (by kernel_rfl) (by kernel_rfl) (fun _ _ _ h => h) (Or.inl ⟨by rfl, fun V hV => ?_⟩) (by assumption) ?_
    rotate_left
    · go_simp
      try with_reducible rfl
    try simp only [Act.put, List.getElem_toArray, List.getElem_cons_zero, List.getElem_cons_succ, List.setIfInBounds_toArray, List.set_cons_zero, List.set_cons_succ]
    refine wpAnyH_take (i := 6) (v := ?_) rfl (by kernel_rfl) (by kernel_rfl) (by kernel_rfl) (fun _ _ _ h => h) (Or.inl ⟨by rfl, fun V hV => ?_⟩) (by assumption) ?_
    rotate_left
    · have e1 := (StoAt.of hV.1.cell).c1; have e3 := (StoAt.of hV.1.cell).c3; have e4 := (StoAt.of hV.1.cell).c4; have e5 := (StoAt.of hV.1.cell).c5; have e6 := (StoAt.of hV.1.cell).c6; go_simp
      try with_reducible rfl
    try simp only [Act.put, List.getElem_toArray, List.getElem_cons_zero, List.getElem_cons_succ, List.setIfInBounds_toArray, List.set_cons_zero, List.set_cons_succ]
    refine wpAnyH_take (i := 7) (v := ?_) rfl (by kernel_rfl) (by kernel_rfl) (by kernel_rfl) (fun _ _ _ h => h) (Or.inl ⟨by rfl, fun V hV => ?_⟩) (by assumption) ?_
    rotate_left
    · go_simp
      try with_reducible rfl
    try simp only [Act.put, List.getElem_toArray, List.getElem_cons_zero, List.getElem_cons_succ, List.setIfInBounds_toArray, List.set_cons_zero, List.set_cons_succ]
    refine wpAnyH_take (i := 8) (v := ?_) rfl (by kernel_rfl) (by kernel_rfl) (by kernel_rfl) (fun _ _ _ h => h) (Or.inl ⟨by rfl, fun V hV => ?_⟩) (by assumption) ?_
    rotate_left
    · have e1 := (StoAt.of hV.1.cell).c1; have e3 := (StoAt.of hV.1.cell).c3; have e4 := (StoAt.of hV.1.cell).c4; have e5 := (StoAt.of hV.1.cell).c5; have e6 := (StoAt.of hV.1.cell).c6; go_simp
      try with_reducible rfl
    try simp only [Act.put, List.getElem_toArray, List.getElem_cons_zero, List.getElem_cons_succ, List.setIfInBounds_toArray, List.set_cons_zero, List.set_cons_succ]
    refine wpAnyH_ready (rs := [4]) (by kernel_rfl) (by simp) ?_
    refine AllReadyH.cons (o := _) rfl (fun K hK => ?_) AllReadyH.nil
    go_simp
    (with_reducible refine (flipped_any s.a s.high _ (by omega) (by omega) (by have := HRG.out; omega) (by have := HRG.out; omega) (by have := HRG.out; omega) (by have := HRG.out; omega)).mono ?_)
    rintro e v4 ⟨rfl, hb⟩
    have HY := hid ((HX.out.below (Below.refl _ _).drew).below hb)
    refine hK.out _ _ (⟨hS.1.step hb, hS.2.trans (hb.mono (by have := HLX.out; have := hS.2.size; exact Nat.le_trans (Nat.le_of_lt HXL.out) this))⟩) (fun hS => ?_)
    clear hK K
    try simp only [List.setIfInBounds_toArray, List.set_cons_zero, List.set_cons_succ]
    refine wpAnyH_take (i := 10) (v := ?_) rfl (by kernel_rfl) (by kernel_rfl) (by kernel_rfl) (fun _ _ _ h => h) (Or.inl ⟨by rfl, fun V hV => ?_⟩) (by assumption) ?_
    rotate_left
    · go_simp
      try with_reducible rfl
    try simp only [Act.put, List.getElem_toArray, List.getElem_cons_zero, List.getElem_cons_succ, List.setIfInBounds_toArray, List.set_cons_zero, List.set_cons_succ]
    refine wpAnyH_ready (rs := [9]) (by kernel_rfl) (by simp) ?_
    refine AllReadyH.cons (o := _) rfl (fun K hK => ?_) AllReadyH.nil
    go_simp
    (with_reducible refine (flipped_any s.b s.high _ (by omega) (by omega) (by have := HRG.out; omega) (by have := HRG.out; omega) (by have := HRG.out; omega) (by have := HRG.out; omega)).mono ?_)
    rintro e v9 ⟨rfl, hb⟩
    replace HY := hid (HY.out.below hb)
    refine hK.out _ _ (⟨hS.1.step hb, hS.2.trans (hb.mono (by have := HLX.out; have := hS.2.size; exact Nat.le_trans (Nat.le_of_lt HXL.out) this))⟩) (fun hS => ?_)
    clear hK K
    try simp only [List.setIfInBounds_toArray, List.set_cons_zero, List.set_cons_succ]
    refine wpAnyH_ready (rs := [11]) (by kernel_rfl) (by simp) ?_
    refine AllReadyH.cons (o := _) rfl (fun K hK => ?_) AllReadyH.nil
    have k3 := (HY.out.2 3 (.int .i64 s.a.lo) rfl).1; have f3 := (HY.out.2 3 (.int .i64 s.a.lo) rfl).2; have k4 := (HY.out.2 4 (.int .i64 s.a.hi) rfl).1; have f4 := (HY.out.2 4 (.int .i64 s.a.hi) rfl).2
    have HZ : Hid (BoxIs w1.heap.size #[.int .i64 s.wide, .int .i64 s.high, .int .i64 s.fall, .int .i64 (flipR s.a s.high).lo, .int .i64 (flipR s.a s.high).hi, .int .i64 s.b.lo, .int .i64 s.b.hi, .int .i64 s.half.lo, .int .i64 s.half.hi, .int .i64 s.peak.lo, .int .i64 s.peak.hi, .slice p n c] ((v9.setCell ⟨w1.heap.size, 3, none⟩ (.int .i64 (flipR s.a s.high).lo)).setCell ⟨w1.heap.size, 4, none⟩ (.int .i64 (flipR s.a s.high).hi))) := hid ((HY.out.put (j := 3) (.int .i64 (flipR s.a s.high).lo)).put (j := 4) (.int .i64 (flipR s.a s.high).hi))
    have HSW := hid (hS.1.step' ((((Below.refl w1.heap.size v9).setCell (p := ⟨w1.heap.size, 3, none⟩) (Nat.le_refl _) (.int .i64 (flipR s.a s.high).lo)).setCell (p := ⟨w1.heap.size, 4, none⟩) (Nat.le_refl _) (.int .i64 (flipR s.a s.high).hi)).mono HLX.out))
    have HSB := hid (hS.2.trans ((((Below.refl w1.heap.size v9).setCell (p := ⟨w1.heap.size, 3, none⟩) (Nat.le_refl _) (.int .i64 (flipR s.a s.high).lo)).setCell (p := ⟨w1.heap.size, 4, none⟩) (Nat.le_refl _) (.int .i64 (flipR s.a s.high).hi)).mono (Nat.le_refl _)))
    clear hS
    go_simp
    clear k3 f3 k4 f4
    generalize ((v9.setCell ⟨w1.heap.size, 3, none⟩ (.int .i64 (flipR s.a s.high).lo)).setCell ⟨w1.heap.size, 4, none⟩ (.int .i64 (flipR s.a s.high).hi)) = V11 at HZ HSW HSB ⊢
    replace HY := HZ
    refine hK.out _ _ (⟨HSW.out, HSB.out⟩) (fun hS => ?_)
    clear hK K
    try simp only [List.setIfInBounds_toArray, List.set_cons_zero, List.set_cons_succ]
    refine wpAnyH_take (i := 12) (v := ?_) rfl (by kernel_rfl) (by kernel_rfl) (by kernel_rfl) (fun _ _ _ h => h) (Or.inl ⟨by rfl, fun V hV => ?_⟩) (by assumption) ?_
    rotate_left
    · go_simp
      try with_reducible rfl
    try simp only [Act.put, List.getElem_toArray, List.getElem_cons_zero, List.getElem_cons_succ, List.setIfInBounds_toArray, List.set_cons_zero, List.set_cons_succ]
    refine wpAnyH_ready (rs := [13]) (by kernel_rfl) (by simp) ?_
    refine AllReadyH.cons (o := _) rfl (fun K hK => ?_) AllReadyH.nil
    have k5 := (HY.out.2 5 (.int .i64 s.b.lo) rfl).1; have f5 := (HY.out.2 5 (.int .i64 s.b.lo) rfl).2; have k6 := (HY.out.2 6 (.int .i64 s.b.hi) rfl).1; have f6 := (HY.out.2 6 (.int .i64 s.b.hi) rfl).2
    have HZ : Hid (BoxIs w1.heap.size #[.int .i64 s.wide, .int .i64 s.high, .int .i64 s.fall, .int .i64 (flipR s.a s.high).lo, .int .i64 (flipR s.a s.high).hi, .int .i64 (flipR s.b s.high).lo, .int .i64 (flipR s.b s.high).hi, .int .i64 s.half.lo, .int .i64 s.half.hi, .int .i64 s.peak.lo, .int .i64 s.peak.hi, .slice p n c] ((V11.setCell ⟨w1.heap.size, 5, none⟩ (.int .i64 (flipR s.b s.high).lo)).setCell ⟨w1.heap.size, 6, none⟩ (.int .i64 (flipR s.b s.high).hi))) := hid ((HY.out.put (j := 5) (.int .i64 (flipR s.b s.high).lo)).put (j := 6) (.int .i64 (flipR s.b s.high).hi))
    have HSW := hid (hS.1.step' ((((Below.refl w1.heap.size V11).setCell (p := ⟨w1.heap.size, 5, none⟩) (Nat.le_refl _) (.int .i64 (flipR s.b s.high).lo)).setCell (p := ⟨w1.heap.size, 6, none⟩) (Nat.le_refl _) (.int .i64 (flipR s.b s.high).hi)).mono HLX.out))
    have HSB := hid (hS.2.trans ((((Below.refl w1.heap.size V11).setCell (p := ⟨w1.heap.size, 5, none⟩) (Nat.le_refl _) (.int .i64 (flipR s.b s.high).lo)).setCell (p := ⟨w1.heap.size, 6, none⟩) (Nat.le_refl _) (.int .i64 (flipR s.b s.high).hi)).mono (Nat.le_refl _)))
    clear hS
    go_simp
    clear k5 f5 k6 f6
    generalize ((V11.setCell ⟨w1.heap.size, 5, none⟩ (.int .i64 (flipR s.b s.high).lo)).setCell ⟨w1.heap.size, 6, none⟩ (.int .i64 (flipR s.b s.high).hi)) = V13 at HZ HSW HSB ⊢
    replace HY := HZ
    refine hK.out _ _ (⟨HSW.out, HSB.out⟩) (fun hS => ?_)
    clear hK K
    try simp only [List.setIfInBounds_toArray, List.set_cons_zero, List.set_cons_succ]
    refine wpAnyH_take (i := 14) (v := ?_) rfl (by kernel_rfl) (by kernel_rfl) (by kernel_rfl) (fun _ _ _ h => h) (Or.inl ⟨by rfl, fun V hV => ?_⟩) (by assumption) ?_
    rotate_left
    · go_simp
      try with_reducible rfl
    try simp only [Act.put, List.getElem_toArray, List.getElem_cons_zero, List.getElem_cons_succ, List.setIfInBounds_toArray, List.set_cons_zero, List.set_cons_succ]
    refine wpAnyH_ready (rs := [15]) (by kernel_rfl) (by simp) ?_
    refine AllReadyH.cons (o := _) rfl (fun K hK => ?_) AllReadyH.nil
    have k11 := (HY.out.2 11 (.slice p n c) rfl).1; have f11 := (HY.out.2 11 (.slice p n c) rfl).2
    have HZ : Hid (BoxIs w1.heap.size #[.int .i64 s.wide, .int .i64 s.high, .int .i64 s.fall, .int .i64 (flipR s.a s.high).lo, .int .i64 (flipR s.a s.high).hi, .int .i64 (flipR s.b s.high).lo, .int .i64 (flipR s.b s.high).hi, .int .i64 s.half.lo, .int .i64 s.half.hi, .int .i64 s.peak.lo, .int .i64 s.peak.hi, .slice none 0 0] (V13.setCell ⟨w1.heap.size, 11, none⟩ (.slice none 0 0))) := hid (HY.out.put (j := 11) (.slice none 0 0))
    have HSW := hid (hS.1.step' (((Below.refl w1.heap.size V13).setCell (p := ⟨w1.heap.size, 11, none⟩) (Nat.le_refl _) (.slice none 0 0)).mono HLX.out))
    have HSB := hid (hS.2.trans (((Below.refl w1.heap.size V13).setCell (p := ⟨w1.heap.size, 11, none⟩) (Nat.le_refl _) (.slice none 0 0)).mono (Nat.le_refl _)))
    clear hS
    go_simp
    clear k11 f11
    generalize (V13.setCell ⟨w1.heap.size, 11, none⟩ (.slice none 0 0)) = V15 at HZ HSW HSB ⊢
    replace HY := HZ
    refine hK.out _ _ (⟨HSW.out, HSB.out⟩) (fun hS => ?_)
    clear hK K
    try simp only [List.setIfInBounds_toArray, List.set_cons_zero, List.set_cons_succ]
    refine wpAnyH_done (by kernel_rfl) ?_ _
    have H3 := hid hS.1; have HB5 := hid hS.2
    clear hS HX
    have HX : Hid (BoxIs w1.heap.size #[.int .i64 (flipS s).wide, .int .i64 (flipS s).high, .int .i64 (flipS s).fall, .int .i64 (flipS s).a.lo, .int .i64 (flipS s).a.hi, .int .i64 (flipS s).b.lo, .int .i64 (flipS s).b.hi, .int .i64 (flipS s).half.lo, .int .i64 (flipS s).half.hi, .int .i64 (flipS s).peak.lo, .int .i64 (flipS s).peak.hi, .slice none 0 0] V15) := hid HY.out
    clear HY
    generalize V15 = w3 at HX H3 HB5 ⊢
    have HLB : Hid (w1.heap.size < w3.heap.size) := hid HX.out.1
    go_wp2_with fail
    go_loopw [6] (fun i wr => ∃ (k : Nat) (q : Option Addr) (m d : Nat), k ≤ n ∧ i = .int .i64 k ∧ BoxIs w1.heap.size #[.int .i64 (flipS s).wide, .int .i64 (flipS s).high, .int .i64 (flipS s).fall, .int .i64 (flipS s).a.lo, .int .i64 (flipS s).a.hi, .int .i64 (flipS s).b.lo, .int .i64 (flipS s).b.hi, .int .i64 (flipS s).half.lo, .int .i64 (flipS s).half.hi, .int .i64 (flipS s).peak.lo, .int .i64 (flipS s).peak.hi, .slice q m d] wr ∧ OwnRows cellsK 7 61 wr w3.heap.size (.slice q m d) ((s.cards.take k).map (flipC s.high)) ∧ Boxed1 w #[.int .i64 s.wide, .int .i64 s.high, .int .i64 s.fall, .int .i64 s.a.lo, .int .i64 s.a.hi, .int .i64 s.b.lo, .int .i64 s.b.hi, .int .i64 s.half.lo, .int .i64 s.half.hi, .int .i64 s.peak.lo, .int .i64 s.peak.hi, .slice p n c] 26 wr ∧ Below w1.heap.size w3 wr) (fun i _ => n - (intOf i).toNat)
    case atStart => exact ⟨0, none, 0, 0, by omega, rfl, HX.out, ownRows_nil _ _ _ _ _, H3.out, Below.refl _ _⟩
    case round =>
      obtain ⟨k, q, m, d, hk, rfl, hx, ho, hw, hbw⟩ := hrel
      have HXr := hid hx; have HOr := hid ho; have HWr := hid hw; have HBr := hid hbw
      clear hx ho hw hbw
      have e1 := (StoAt.of HWr.out.cell).c1; have e11 := (StoAt.of HWr.out.cell).c11
      by_cases hlt : k < n
      · have hkl : k < s.cards.length := by have := HC.out.1; omega
        obtain ⟨z, hz⟩ : ∃ z, s.cards[k]? = some z := ⟨_, List.getElem?_eq_getElem hkl⟩
        have HTK : Hid ((s.cards.take (k + 1)).map (flipC s.high) = (s.cards.take k).map (flipC s.high) ++ [flipC s.high z]) := by show _ = _; rw [List.take_add_one, hz]; simp
        have HLT : Hid (((s.cards.take k).map (flipC s.high)).length ≤ 1000000) := hid (by rw [List.length_map]; have := List.length_take_le k s.cards; omega)
        have HSK := hid (HOK.out.smallK (List.mem_of_getElem? hz))
        obtain ⟨b1, o1, rfl, _, c0, c1, c2, c3, c4, c5, c6⟩ := (HC.out.below HWr.out.below).2 k z hz
        clear hz hkl
        obtain ⟨w8, hw8⟩ : ∃ V, (wr.alloc (.cells #[.int .i64 z.x.lo, .int .i64 z.x.hi, .int .i64 z.y.lo, .int .i64 z.y.hi, .bool z.hail, .int .i64 z.size.lo, .int .i64 z.size.hi] 61)) = V := ⟨_, rfl⟩
        have HBB : Hid (Below wr.heap.size wr w8) := hid (by rw [← hw8]; exact (Below.refl _ _).alloc (Nat.le_refl _) _)
        have HZ : Hid (BoxIs wr.heap.size #[.int .i64 z.x.lo, .int .i64 z.x.hi, .int .i64 z.y.lo, .int .i64 z.y.hi, .bool z.hail, .int .i64 z.size.lo, .int .i64 z.size.hi] w8) := by show BoxIs _ _ _; rw [← hw8]; exact BoxIs.start _ _ _
        go_upto_region 9 with fail
        clear hw8 c0 c1 c2 c3 c4 c5 c6 e1 e11
        have HW8 := hid (HWr.out.step HBB.out)
        have e1 := (StoAt.of HW8.out.cell).c1
        have y2 := (HZ.out.2 2 (.int .i64 z.y.lo) rfl).1; have y3 := (HZ.out.2 3 (.int .i64 z.y.hi) rfl).1
        go_wp2_with fail
        (with_reducible refine (flipped_any z.y s.high _ (by omega) (by omega) (by have := HSK.out.y0; omega) (by have := HSK.out.y9; have := HSK.out.yy; omega) (by have := HSK.out.y0; have := HSK.out.yy; omega) (by have := HSK.out.y9; omega)).mono ?_)
        rintro e w9 ⟨rfl, hb⟩
        have HW9 := hid (HW8.out.step hb); replace HZ := hid (HZ.out.below hb); have HB9 := hid (HBB.out.trans (hb.mono HBB.out.size))
        clear hb e1 y2 y3
        have y2 := (HZ.out.2 2 (.int .i64 z.y.lo) rfl).1; have zy2 := (HZ.out.2 2 (.int .i64 z.y.lo) rfl).2; have y3 := (HZ.out.2 3 (.int .i64 z.y.hi) rfl).1; have zy3 := (HZ.out.2 3 (.int .i64 z.y.hi) rfl).2
        have HZ9 : Hid (BoxIs wr.heap.size #[.int .i64 (flipC s.high z).x.lo, .int .i64 (flipC s.high z).x.hi, .int .i64 (flipC s.high z).y.lo, .int .i64 (flipC s.high z).y.hi, .bool (flipC s.high z).hail, .int .i64 (flipC s.high z).size.lo, .int .i64 (flipC s.high z).size.hi] ((w9.setCell ⟨wr.heap.size, 2, none⟩ (.int .i64 (flipR z.y s.high).lo)).setCell ⟨wr.heap.size, 3, none⟩ (.int .i64 (flipR z.y s.high).hi))) := hid ((HZ.out.put (j := 2) (.int .i64 (flipR z.y s.high).lo)).put (j := 3) (.int .i64 (flipR z.y s.high).hi))
        have HBC : Hid (Below wr.heap.size wr ((w9.setCell ⟨wr.heap.size, 2, none⟩ (.int .i64 (flipR z.y s.high).lo)).setCell ⟨wr.heap.size, 3, none⟩ (.int .i64 (flipR z.y s.high).hi))) := hid ((HB9.out.setCell (p := ⟨wr.heap.size, 2, none⟩) (Nat.le_refl _) _).setCell (p := ⟨wr.heap.size, 3, none⟩) (Nat.le_refl _) _)
        go_upto_region 10 with fail
        clear y2 y3 zy2 zy3
        generalize ((w9.setCell ⟨wr.heap.size, 2, none⟩ (.int .i64 (flipR z.y s.high).lo)).setCell ⟨wr.heap.size, 3, none⟩ (.int .i64 (flipR z.y s.high).hi)) = w10 at HZ9 HBC ⊢
        have HW10 := hid (HWr.out.step HBC.out); have HX10 := hid (HXr.out.below HBC.out); have HO10 := hid (HOr.out.below HBC.out)
        have z11 := (HX10.out.2 11 (.slice q m d) rfl).1
        have y0 := (HZ9.out.2 0 (.int .i64 (flipC s.high z).x.lo) rfl).1; have y1 := (HZ9.out.2 1 (.int .i64 (flipC s.high z).x.hi) rfl).1; have y2 := (HZ9.out.2 2 (.int .i64 (flipC s.high z).y.lo) rfl).1; have y3 := (HZ9.out.2 3 (.int .i64 (flipC s.high z).y.hi) rfl).1; have y4 := (HZ9.out.2 4 (.bool (flipC s.high z).hail) rfl).1; have y5 := (HZ9.out.2 5 (.int .i64 (flipC s.high z).size.lo) rfl).1; have y6 := (HZ9.out.2 6 (.int .i64 (flipC s.high z).size.hi) rfl).1
        have ho3 := HO10.out.below ((Below.refl _ _).alloc (Nat.le_refl _) (.cells #[.int .i64 (flipC s.high z).x.lo, .int .i64 (flipC s.high z).x.hi, .int .i64 (flipC s.high z).y.lo, .int .i64 (flipC s.high z).y.hi, .bool (flipC s.high z).hail, .int .i64 (flipC s.high z).size.lo, .int .i64 (flipC s.high z).size.hi] 61))
        have hle := HLT.out
        have hbs : w3.heap.size ≤ w10.heap.size := Nat.le_trans HBr.out.size HBC.out.size
        go_wp2_with (at_builtin; refine append_rows cellsK_len (by decide) cellsK_one 24 61 _ 56 (by decide) Try.info61 rfl Try.und24 (by rfl) _ _ (by rfl) w3.heap.size _ _ _ 1 1 [flipC s.high z] ho3 (by rfl) (by rfl) (crd_lit (flipC s.high z) 61) hle (by omega) (by rw [World.size_alloc]; omega) ?_; intro v1 w11 h1 h2 h3; rw [← HTK.out] at h1; obtain ⟨q1, d1, hqd, _⟩ := h1.slice cellsK_len; obtain ⟨m1, hm1⟩ : ∃ m1, ((s.cards.take (k + 1)).map (flipC s.high)).length = m1 := ⟨_, rfl⟩; rw [hm1] at hqd; subst hqd; clear hm1 h3 z11; have hbk : Below w3.heap.size w10 w11 := (((Below.refl _ _).alloc hbs _).trans h2); have HX11 := hid (HX10.out.keep hbk HLB.out); have HO11 := hid h1; have HW11 := hid (HW10.out.step' (hbk.mono (by have := HLX.out; have := HLB.out; omega))); have HB11 := hid ((HBr.out.trans (HBC.out.mono (by have := HBr.out.size; have := HLB.out; omega))).trans (hbk.mono (Nat.le_of_lt HLB.out))); clear h1 h2 hbk ho3 hle hbs; have z11 := (HX11.out.2 11 (.slice q m d) rfl).1; have zz11 := (HX11.out.2 11 (.slice q m d) rfl).2)
        clear y0 y1 y2 y3 y4 y5 y6
        have HXF : Hid (BoxIs w1.heap.size #[.int .i64 (flipS s).wide, .int .i64 (flipS s).high, .int .i64 (flipS s).fall, .int .i64 (flipS s).a.lo, .int .i64 (flipS s).a.hi, .int .i64 (flipS s).b.lo, .int .i64 (flipS s).b.hi, .int .i64 (flipS s).half.lo, .int .i64 (flipS s).half.hi, .int .i64 (flipS s).peak.lo, .int .i64 (flipS s).peak.hi, .slice q1 m1 d1] (w11.setCell ⟨w1.heap.size, 11, none⟩ (.slice q1 m1 d1))) := hid (HX11.out.put (j := 11) (.slice q1 m1 d1))
        have HOF : Hid (OwnRows cellsK 7 61 (w11.setCell ⟨w1.heap.size, 11, none⟩ (.slice q1 m1 d1)) w3.heap.size (.slice q1 m1 d1) ((s.cards.take (k + 1)).map (flipC s.high))) := hid (HO11.out.block fun g hg => Below.heap_setCell _ _ _ _ (by have h1 := (HO11.out.lt g hg).1; have := HLB.out; show g ≠ w1.heap.size; omega))
        have HWF : Hid (Boxed1 w #[.int .i64 s.wide, .int .i64 s.high, .int .i64 s.fall, .int .i64 s.a.lo, .int .i64 s.a.hi, .int .i64 s.b.lo, .int .i64 s.b.hi, .int .i64 s.half.lo, .int .i64 s.half.hi, .int .i64 s.peak.lo, .int .i64 s.peak.hi, .slice (some ⟨b1, o1, none⟩) n c] 26 (w11.setCell ⟨w1.heap.size, 11, none⟩ (.slice q1 m1 d1))) := hid (HW11.out.step' (Below.setCell (Below.refl _ _) (p := ⟨w1.heap.size, 11, none⟩) HLX.out _))
        have HBF : Hid (Below w1.heap.size w3 (w11.setCell ⟨w1.heap.size, 11, none⟩ (.slice q1 m1 d1))) := hid (HB11.out.setCell (p := ⟨w1.heap.size, 11, none⟩) (Nat.le_refl _) _)
        go_wp2_with fail
        go_roundw
        case rel => exact ⟨k + 1, q1, m1, d1, by omega, by go_num, HXF.out, HOF.out, HWF.out, HBF.out⟩
        case measure => simp [intOf]; omega
      · have hkn : s.cards.take k = s.cards := List.take_of_length_le (by have := HC.out.1; omega)
        rw [hkn] at HOr
        clear hkn
        obtain ⟨qx, dx, hqd, hrx⟩ := HOr.out.slice cellsK_len
        obtain ⟨mx, hmx⟩ : ∃ mx, (s.cards.map (flipC s.high)).length = mx := ⟨_, rfl⟩
        rw [hmx] at hqd hrx
        cases hqd
        have HKX : Hid (CrdsAt wr q m (flipS s).cards) := hid (crds_iff.2 hrx)
        have HMX : Hid (m ≤ 1000) := hid (by rw [← hmx, List.length_map]; have := HC.out.1; have := HN9.out; omega)
        clear hmx hrx HOr e1
        have HX := HXr; have HWr := HWr
        clear HXr
        obtain ⟨w20, hw20⟩ : ∃ w20, wr = w20 := ⟨_, rfl⟩
        rw [hw20] at HX HWr HKX ⊢
        have H20 := HWr
        clear HBr HWr hw20 e11
        have e0 := (StoAt.of H20.out.cell).c0; have e1 := (StoAt.of H20.out.cell).c1; have e2 := (StoAt.of H20.out.cell).c2; have e3 := (StoAt.of H20.out.cell).c3; have e4 := (StoAt.of H20.out.cell).c4; have e5 := (StoAt.of H20.out.cell).c5; have e6 := (StoAt.of H20.out.cell).c6; have e7 := (StoAt.of H20.out.cell).c7; have e8 := (StoAt.of H20.out.cell).c8; have e9 := (StoAt.of H20.out.cell).c9; have e10 := (StoAt.of H20.out.cell).c10; have e11 := (StoAt.of H20.out.cell).c11
        go_wp2_with fail
        (with_reducible refine (box_any s p n c wv _ HOK.out HWV.out.1 HWV.out.2).mono ?_)
        rintro e w21 ⟨rfl, hb⟩
        have H21 := hid (H20.out.step hb)
        replace HX := hid (HX.out.below hb)
        replace HKX := hid (HKX.out.below hb)
        clear hb
        clear e0 e1 e2 e3 e4 e5 e6 e7 e8 e9 e10 e11 
        obtain ⟨bx, hbx⟩ : ∃ v, boxX s wv = v := ⟨_, rfl⟩
        obtain ⟨bY, hby⟩ : ∃ v, boxY s wv = v := ⟨_, rfl⟩
        rw [hbx, hby] at HRC
        rw [hbx, hby]
        clear hbx hby
        obtain ⟨w22, hw22⟩ : ∃ V, (w21.alloc (.cells #[.int .i64 bx.lo, .int .i64 bx.hi, .int .i64 bY.lo, .int .i64 bY.hi] 64)) = V := ⟨_, rfl⟩
        have H22 : Hid (Boxed1 w #[.int .i64 s.wide, .int .i64 s.high, .int .i64 s.fall, .int .i64 s.a.lo, .int .i64 s.a.hi, .int .i64 s.b.lo, .int .i64 s.b.hi, .int .i64 s.half.lo, .int .i64 s.half.hi, .int .i64 s.peak.lo, .int .i64 s.peak.hi, .slice p n c] 26 w22) := by show Boxed1 w #[.int .i64 s.wide, .int .i64 s.high, .int .i64 s.fall, .int .i64 s.a.lo, .int .i64 s.a.hi, .int .i64 s.b.lo, .int .i64 s.b.hi, .int .i64 s.half.lo, .int .i64 s.half.hi, .int .i64 s.peak.lo, .int .i64 s.peak.hi, .slice p n c] 26 w22; rw [← hw22]; exact H21.out.alloc _
        have HR : Hid (BoxIs w21.heap.size #[.int .i64 bx.lo, .int .i64 bx.hi, .int .i64 bY.lo, .int .i64 bY.hi] w22) := by show BoxIs _ _ _; rw [← hw22]; exact BoxIs.start _ _ _
        have HBB : Hid (Below w21.heap.size w21 w22) := hid (by rw [← hw22]; exact (Below.refl _ _).alloc (Nat.le_refl _) _)
        replace HX := hid (HX.out.below HBB.out)
        replace HKX := hid (HKX.out.below HBB.out)
        go_upto_region 12 with fail
        clear hw22 HBB 
        have HRB : Hid ((0 ≤ bx.lo ∧ bx.lo ≤ bx.hi ∧ bx.hi ≤ s.wide - 1) ∧ (0 ≤ bY.lo ∧ bY.lo ≤ bY.hi ∧ bY.hi ≤ s.high - 1)) := hid (by have h := HRC.out; rw [rectB, Bool.and_eq_true, Rng.of_iff, Rng.of_iff] at h; exact h)
        have HFN : Hid (fineS s bx.lo bY.lo = true) := hid (by have h := HRB.out; rw [fineS, Bool.and_eq_true, inB_iff, inB_iff]; omega)
        have HWA : Hid (IntKind.i64.wrap (s.high - 1) = s.high - 1) := hid (IntWalk.i64_in _ (by omega))
        have HWB : Hid (IntKind.i64.wrap (s.high - 1 - bY.lo) = s.high - 1 - bY.lo) := hid (IntWalk.i64_in _ (by have := HRB.out; omega))
        obtain ⟨E, hE⟩ : ∃ v, sureE s true = v := ⟨_, rfl⟩
        have HE := hid (by have h := mir_e HOK.out; rw [hE] at h; exact h)
        obtain ⟨V, hV⟩ : ∃ v, verdV s bx bY = v := ⟨_, rfl⟩
        have HV1 := hid hV
        have HV2 : Hid (verdV (flipS s) bx (flipR bY s.high) = V) := hid (by rw [mir_verd HOK.out HRC.out]; exact hV)
        obtain ⟨R, hR⟩ : ∃ v, sizesV s bx.lo bY.lo = v := ⟨_, rfl⟩
        have HR1 := hid hR
        have HR2 : Hid (sizesV (flipS s) bx.lo (s.high - 1 - bY.lo) = R) := hid (by rw [mir_size HOK.out HFN.out]; exact hR)
        have HE1 : Hid (sureE s (rectB s bx bY) = E) := hid (by rw [HRC.out]; exact hE)
        have HE2 : Hid (sureE (flipS s) (rectB (flipS s) bx (flipR bY s.high)) = E) := hid (by rw [flip_rect, HRC.out, mir_true HOK.out]; exact hE)
        have HE3 : Hid (sureE s (fineS s bx.lo bY.lo) = E) := hid (by rw [HFN.out]; exact hE)
        have HE4 : Hid (sureE (flipS s) (fineS (flipS s) bx.lo (s.high - 1 - bY.lo)) = E) := hid (by rw [mir_fine, HFN.out, mir_true HOK.out]; exact hE)
        clear hE hV hR
        go_upto_region 12 with fail
        go_cut [9] from 22 (fun a9 wr => ∃ bt, a9 = .pointer (some ⟨bt, 0, none⟩) ∧ BoxIs bt #[.int .i64 bx.lo, .int .i64 bx.hi, .int .i64 (flipR bY s.high).lo, .int .i64 (flipR bY s.high).hi] wr ∧ Boxed1 w #[.int .i64 s.wide, .int .i64 s.high, .int .i64 s.fall, .int .i64 s.a.lo, .int .i64 s.a.hi, .int .i64 s.b.lo, .int .i64 s.b.hi, .int .i64 s.half.lo, .int .i64 s.half.hi, .int .i64 s.peak.lo, .int .i64 s.peak.hi, .slice p n c] 26 wr ∧ Below w22.heap.size w22 wr)
        case first =>
          obtain ⟨wd, hwd⟩ : ∃ V, w22.drew = V := ⟨_, rfl⟩
          have HD := hid H22.out.drew
          replace HX := hid (HX.out.below (Below.refl _ _).drew)
          replace HKX := hid (HKX.out.below (Below.refl _ _).drew)
          replace HR := hid (HR.out.below (Below.refl _ _).drew)
          rw [hwd] at HD HX HKX HR
          have HWD : Hid (Below w22.heap.size w22 wd) := hid (by rw [← hwd]; exact (Below.refl _ _).drew)
          refine wp_region_held_drew (S := fun V => Boxed1 w #[.int .i64 s.wide, .int .i64 s.high, .int .i64 s.fall, .int .i64 s.a.lo, .int .i64 s.a.hi, .int .i64 s.b.lo, .int .i64 s.b.hi, .int .i64 s.half.lo, .int .i64 s.half.hi, .int .i64 s.peak.lo, .int .i64 s.peak.hi, .slice p n c] 26 V ∧ Below wd.heap.size wd V) (by kernel_rfl) (by rw [hwd]; exact ⟨HD.out, Below.refl _ _⟩) (fun hS => ?_)
          rw [hwd] at hS ⊢
          clear hwd
          simp only [List.size_toArray, List.length_cons, List.length_nil, Nat.reduceAdd, Array.replicate_succ, Array.replicate_zero, List.push_toArray, List.nil_append, List.cons_append]
          refine wpAnyH_take (i := 0) (v := ?_) rfl (by kernel_rfl) (by kernel_rfl) (by kernel_rfl) (fun _ _ _ h => h) (Or.inl ⟨by rfl, fun V hV => ?_⟩) (by assumption) ?_
          rotate_left
          · go_simp
            try with_reducible rfl
          try simp only [Act.put, List.getElem_toArray, List.getElem_cons_zero, List.setIfInBounds_toArray, List.set_cons_zero, List.set_cons_succ]
          refine wpAnyH_take (i := 1) (v := ?_) rfl (by kernel_rfl) (by kernel_rfl) (by kernel_rfl) (fun _ _ _ h => h) (Or.inl ⟨by rfl, fun V hV => ?_⟩) (by assumption) ?_
          rotate_left
          · have hX := HR.out.below hV.2; have x0 := (hX.2 0 (.int .i64 bx.lo) rfl).1; have x1 := (hX.2 1 (.int .i64 bx.hi) rfl).1; have x2 := (hX.2 2 (.int .i64 bY.lo) rfl).1; have x3 := (hX.2 3 (.int .i64 bY.hi) rfl).1; go_simp
            try with_reducible rfl
          try simp only [Act.put, List.getElem_toArray, List.getElem_cons_zero, List.getElem_cons_succ, List.setIfInBounds_toArray, List.set_cons_zero, List.set_cons_succ]
          refine wpAnyH_take (i := 2) (v := ?_) rfl (by kernel_rfl) (by kernel_rfl) (by kernel_rfl) (fun _ _ _ h => h) (Or.inl ⟨by rfl, fun V hV => ?_⟩) (by assumption) ?_
          rotate_left
          · go_simp
            try with_reducible rfl
          try simp only [Act.put, List.getElem_toArray, List.getElem_cons_zero, List.getElem_cons_succ, List.setIfInBounds_toArray, List.set_cons_zero, List.set_cons_succ]
          refine wpAnyH_take (i := 3) (v := ?_) rfl (by kernel_rfl) (by kernel_rfl) (by kernel_rfl) (fun _ _ _ h => h) (Or.inl ⟨by rfl, fun V hV => ?_⟩) (by assumption) ?_
          rotate_left
          · have hX := HR.out.below hV.2; have x0 := (hX.2 0 (.int .i64 bx.lo) rfl).1; have x1 := (hX.2 1 (.int .i64 bx.hi) rfl).1; have x2 := (hX.2 2 (.int .i64 bY.lo) rfl).1; have x3 := (hX.2 3 (.int .i64 bY.hi) rfl).1; go_simp
            try with_reducible rfl
          try simp only [Act.put, List.getElem_toArray, List.getElem_cons_zero, List.getElem_cons_succ, List.setIfInBounds_toArray, List.set_cons_zero, List.set_cons_succ]
          refine wpAnyH_take (i := 4) (v := ?_) rfl (by kernel_rfl) (by kernel_rfl) (by kernel_rfl) (fun _ _ _ h => h) (Or.inl ⟨by rfl, fun V hV => ?_⟩) (by assumption) ?_
          rotate_left
          · go_simp
            try with_reducible rfl
          try simp only [Act.put, List.getElem_toArray, List.getElem_cons_zero, List.getElem_cons_succ, List.setIfInBounds_toArray, List.set_cons_zero, List.set_cons_succ]
          refine wpAnyH_take (i := 5) (v := ?_) rfl (by kernel_rfl) (by kernel_rfl) (by kernel_rfl) (fun _ _ _ h => h) (Or.inl ⟨by rfl, fun V hV => ?_⟩) (by assumption) ?_
          rotate_left
          · have e1 := (StoAt.of hV.1.cell).c1; go_simp
            try with_reducible rfl
          try simp only [Act.put, List.getElem_toArray, List.getElem_cons_zero, List.getElem_cons_succ, List.setIfInBounds_toArray, List.set_cons_zero, List.set_cons_succ]
          refine wpAnyH_ready (rs := [6, 8]) (by kernel_rfl) (by simp) ?_
          refine AllReadyH.cons (o := _) rfl (fun K hK => ?_) ?_
          · skip
            go_simp
            (with_reducible refine (flipped_any bY s.high _ (by omega) (by omega) (by have := HRB.out; omega) (by have := HRB.out; omega) (by have := HRB.out; omega) (by have := HRB.out; omega)).mono ?_)
            rintro e v6 ⟨rfl, hb⟩
            refine hK.out _ _ (⟨hS.1.step hb, hS.2.trans (hb.mono hS.2.size)⟩) (fun hS => ?_)
            clear hK K
            try simp only [List.setIfInBounds_toArray, List.set_cons_zero, List.set_cons_succ]
            refine wpAnyH_take (i := 7) (v := ?_) rfl (by kernel_rfl) (by kernel_rfl) (by kernel_rfl) (fun _ _ _ h => h) (Or.inl ⟨by rfl, fun V hV => ?_⟩) (by assumption) ?_
            rotate_left
            · go_simp
              try with_reducible rfl
            try simp only [Act.put, List.getElem_toArray, List.getElem_cons_zero, List.getElem_cons_succ, List.setIfInBounds_toArray, List.set_cons_zero, List.set_cons_succ]
            refine wpAnyH_ready (rs := [8]) (by kernel_rfl) (by simp) ?_
            refine AllReadyH.cons (o := _) rfl (fun K hK => ?_) AllReadyH.nil
            obtain ⟨v8, hv8⟩ : ∃ V, v6.alloc (.cells #[.int .i64 0, .int .i64 0, .int .i64 0, .int .i64 0] 64) = V := ⟨_, rfl⟩
            have hb : Below v6.heap.size v6 v8 := by rw [← hv8]; exact (Below.refl _ _).alloc (Nat.le_refl _) _
            have HN : Hid (BoxIs v6.heap.size #[.int .i64 0, .int .i64 0, .int .i64 0, .int .i64 0] v8) := by show BoxIs _ _ _; rw [← hv8]; exact BoxIs.start _ _ _
            have HL : Hid (wd.heap.size ≤ v6.heap.size) := hid hS.2.size
            go_simp
            refine hK.out _ _ (⟨hS.1.step hb, hS.2.trans (hb.mono hS.2.size)⟩) (fun hS => ?_)
            clear hK K
            try simp only [List.setIfInBounds_toArray, List.set_cons_zero, List.set_cons_succ]
            refine wpAnyH_ready (rs := [9]) (by kernel_rfl) (by simp) ?_
            refine AllReadyH.cons (o := _) rfl (fun K hK => ?_) AllReadyH.nil
            have k0 := (HN.out.2 0 (.int .i64 0) rfl).1; have f0 := (HN.out.2 0 (.int .i64 0) rfl).2
            have k1 := (HN.out.2 1 (.int .i64 0) rfl).1; have f1 := (HN.out.2 1 (.int .i64 0) rfl).2
            have k2 := (HN.out.2 2 (.int .i64 0) rfl).1; have f2 := (HN.out.2 2 (.int .i64 0) rfl).2
            have k3 := (HN.out.2 3 (.int .i64 0) rfl).1; have f3 := (HN.out.2 3 (.int .i64 0) rfl).2
            have HP : Hid (BoxIs v6.heap.size #[.int .i64 bx.lo, .int .i64 bx.hi, .int .i64 (flipR bY s.high).lo, .int .i64 (flipR bY s.high).hi] ((((v8.setCell ⟨v6.heap.size, 0, none⟩ (.int .i64 bx.lo)).setCell ⟨v6.heap.size, 1, none⟩ (.int .i64 bx.hi)).setCell ⟨v6.heap.size, 2, none⟩ (.int .i64 (flipR bY s.high).lo)).setCell ⟨v6.heap.size, 3, none⟩ (.int .i64 (flipR bY s.high).hi))) := hid ((((HN.out.put (j := 0) (.int .i64 bx.lo)).put (j := 1) (.int .i64 bx.hi)).put (j := 2) (.int .i64 (flipR bY s.high).lo)).put (j := 3) (.int .i64 (flipR bY s.high).hi))
            have HSW := hid (hS.1.step' ((((((Below.refl wd.heap.size v8).setCell (p := ⟨v6.heap.size, 0, none⟩) HL.out (.int .i64 bx.lo)).setCell (p := ⟨v6.heap.size, 1, none⟩) HL.out (.int .i64 bx.hi)).setCell (p := ⟨v6.heap.size, 2, none⟩) HL.out (.int .i64 (flipR bY s.high).lo)).setCell (p := ⟨v6.heap.size, 3, none⟩) HL.out (.int .i64 (flipR bY s.high).hi)).mono (by have := HD.out.size; exact this)))
            have HSB := hid (hS.2.trans (((((Below.refl wd.heap.size v8).setCell (p := ⟨v6.heap.size, 0, none⟩) HL.out (.int .i64 bx.lo)).setCell (p := ⟨v6.heap.size, 1, none⟩) HL.out (.int .i64 bx.hi)).setCell (p := ⟨v6.heap.size, 2, none⟩) HL.out (.int .i64 (flipR bY s.high).lo)).setCell (p := ⟨v6.heap.size, 3, none⟩) HL.out (.int .i64 (flipR bY s.high).hi)))
            clear hS
            go_simp
            clear k0 f0 k1 f1 k2 f2 k3 f3
            generalize ((((v8.setCell ⟨v6.heap.size, 0, none⟩ (.int .i64 bx.lo)).setCell ⟨v6.heap.size, 1, none⟩ (.int .i64 bx.hi)).setCell ⟨v6.heap.size, 2, none⟩ (.int .i64 (flipR bY s.high).lo)).setCell ⟨v6.heap.size, 3, none⟩ (.int .i64 (flipR bY s.high).hi)) = V9 at HP HSW HSB ⊢
            replace HN := HP
            refine hK.out _ _ (⟨HSW.out, HSB.out⟩) (fun hS => ?_)
            clear hK K
            try simp only [List.setIfInBounds_toArray, List.set_cons_zero, List.set_cons_succ]
            refine wpAnyH_done (by kernel_rfl) ?_ _
            go_wp2
            go_meet
            case rel => exact ⟨_, rfl, HN.out, hS.1, HWD.out.trans (hS.2.mono HWD.out.size)⟩
          refine AllReadyH.cons (o := _) rfl (fun K hK => ?_) AllReadyH.nil
          obtain ⟨v8, hv8⟩ : ∃ V, wd.alloc (.cells #[.int .i64 0, .int .i64 0, .int .i64 0, .int .i64 0] 64) = V := ⟨_, rfl⟩
          have hb : Below wd.heap.size wd v8 := by rw [← hv8]; exact (Below.refl _ _).alloc (Nat.le_refl _) _
          have HN : Hid (BoxIs wd.heap.size #[.int .i64 0, .int .i64 0, .int .i64 0, .int .i64 0] v8) := by show BoxIs _ _ _; rw [← hv8]; exact BoxIs.start _ _ _
          have HL : Hid (wd.heap.size ≤ wd.heap.size) := hid hS.2.size
          go_simp
          refine hK.out _ _ (⟨hS.1.step hb, hS.2.trans (hb.mono hS.2.size)⟩) (fun hS => ?_)
          clear hK K
          try simp only [List.setIfInBounds_toArray, List.set_cons_zero, List.set_cons_succ]
          refine wpAnyH_ready (rs := [6]) (by kernel_rfl) (by simp) ?_
          refine AllReadyH.cons (o := _) rfl (fun K hK => ?_) AllReadyH.nil
          go_simp
          (with_reducible refine (flipped_any bY s.high _ (by omega) (by omega) (by have := HRB.out; omega) (by have := HRB.out; omega) (by have := HRB.out; omega) (by have := HRB.out; omega)).mono ?_)
          rintro e v6 ⟨rfl, hb⟩
          replace HN := hid (HN.out.below hb)
          refine hK.out _ _ (⟨hS.1.step hb, hS.2.trans (hb.mono hS.2.size)⟩) (fun hS => ?_)
          clear hK K
          try simp only [List.setIfInBounds_toArray, List.set_cons_zero, List.set_cons_succ]
          refine wpAnyH_take (i := 7) (v := ?_) rfl (by kernel_rfl) (by kernel_rfl) (by kernel_rfl) (fun _ _ _ h => h) (Or.inl ⟨by rfl, fun V hV => ?_⟩) (by assumption) ?_
          rotate_left
          · go_simp
            try with_reducible rfl
          try simp only [Act.put, List.getElem_toArray, List.getElem_cons_zero, List.getElem_cons_succ, List.setIfInBounds_toArray, List.set_cons_zero, List.set_cons_succ]
          refine wpAnyH_ready (rs := [9]) (by kernel_rfl) (by simp) ?_
          refine AllReadyH.cons (o := _) rfl (fun K hK => ?_) AllReadyH.nil
          have k0 := (HN.out.2 0 (.int .i64 0) rfl).1; have f0 := (HN.out.2 0 (.int .i64 0) rfl).2
          have k1 := (HN.out.2 1 (.int .i64 0) rfl).1; have f1 := (HN.out.2 1 (.int .i64 0) rfl).2
          have k2 := (HN.out.2 2 (.int .i64 0) rfl).1; have f2 := (HN.out.2 2 (.int .i64 0) rfl).2
          have k3 := (HN.out.2 3 (.int .i64 0) rfl).1; have f3 := (HN.out.2 3 (.int .i64 0) rfl).2
          have HP : Hid (BoxIs wd.heap.size #[.int .i64 bx.lo, .int .i64 bx.hi, .int .i64 (flipR bY s.high).lo, .int .i64 (flipR bY s.high).hi] ((((v6.setCell ⟨wd.heap.size, 0, none⟩ (.int .i64 bx.lo)).setCell ⟨wd.heap.size, 1, none⟩ (.int .i64 bx.hi)).setCell ⟨wd.heap.size, 2, none⟩ (.int .i64 (flipR bY s.high).lo)).setCell ⟨wd.heap.size, 3, none⟩ (.int .i64 (flipR bY s.high).hi))) := hid ((((HN.out.put (j := 0) (.int .i64 bx.lo)).put (j := 1) (.int .i64 bx.hi)).put (j := 2) (.int .i64 (flipR bY s.high).lo)).put (j := 3) (.int .i64 (flipR bY s.high).hi))
          have HSW := hid (hS.1.step' ((((((Below.refl wd.heap.size v6).setCell (p := ⟨wd.heap.size, 0, none⟩) HL.out (.int .i64 bx.lo)).setCell (p := ⟨wd.heap.size, 1, none⟩) HL.out (.int .i64 bx.hi)).setCell (p := ⟨wd.heap.size, 2, none⟩) HL.out (.int .i64 (flipR bY s.high).lo)).setCell (p := ⟨wd.heap.size, 3, none⟩) HL.out (.int .i64 (flipR bY s.high).hi)).mono (by have := HD.out.size; exact this)))
          have HSB := hid (hS.2.trans (((((Below.refl wd.heap.size v6).setCell (p := ⟨wd.heap.size, 0, none⟩) HL.out (.int .i64 bx.lo)).setCell (p := ⟨wd.heap.size, 1, none⟩) HL.out (.int .i64 bx.hi)).setCell (p := ⟨wd.heap.size, 2, none⟩) HL.out (.int .i64 (flipR bY s.high).lo)).setCell (p := ⟨wd.heap.size, 3, none⟩) HL.out (.int .i64 (flipR bY s.high).hi)))
          clear hS
          go_simp
          clear k0 f0 k1 f1 k2 f2 k3 f3
          generalize ((((v6.setCell ⟨wd.heap.size, 0, none⟩ (.int .i64 bx.lo)).setCell ⟨wd.heap.size, 1, none⟩ (.int .i64 bx.hi)).setCell ⟨wd.heap.size, 2, none⟩ (.int .i64 (flipR bY s.high).lo)).setCell ⟨wd.heap.size, 3, none⟩ (.int .i64 (flipR bY s.high).hi)) = V9 at HP HSW HSB ⊢
          replace HN := HP
          refine hK.out _ _ (⟨HSW.out, HSB.out⟩) (fun hS => ?_)
          clear hK K
          try simp only [List.setIfInBounds_toArray, List.set_cons_zero, List.set_cons_succ]
          refine wpAnyH_done (by kernel_rfl) ?_ _
          go_wp2
          go_meet
          case rel => exact ⟨_, rfl, HN.out, hS.1, HWD.out.trans (hS.2.mono HWD.out.size)⟩
        case rest =>
          obtain ⟨btHQ, rfl, hn, hw, hbw⟩ := hcut
          have HQ := hid hn; have H23 := hid hw
          replace HX := hid (HX.out.below hbw)
          replace HKX := hid (HKX.out.below hbw)
          replace HR := hid (HR.out.below hbw)
          clear hn hw hbw
          generalize wc = w23 at HX HKX HR HQ H23 ⊢
          go_upto_region 13 with fail
          refine wp_region_held_drew (S := fun V => Boxed1 w #[.int .i64 s.wide, .int .i64 s.high, .int .i64 s.fall, .int .i64 s.a.lo, .int .i64 s.a.hi, .int .i64 s.b.lo, .int .i64 s.b.hi, .int .i64 s.half.lo, .int .i64 s.half.hi, .int .i64 s.peak.lo, .int .i64 s.peak.hi, .slice p n c] 26 V ∧ Below w23.heap.size w23 V) (by kernel_rfl) (⟨H23.out.drew, (Below.refl _ _).drew⟩) (fun hS => ?_)
          simp only [List.size_toArray, List.length_cons, List.length_nil, Nat.reduceAdd, Array.replicate_succ, Array.replicate_zero, List.push_toArray, List.nil_append, List.cons_append]
          refine wpAnyH_take (i := 0) (v := ?_) rfl (by kernel_rfl) (by kernel_rfl) (by kernel_rfl) (fun _ _ _ h => h) (Or.inl ⟨by rfl, fun V hV => ?_⟩) (by assumption) ?_
          rotate_left
          · have e0 := (StoAt.of hV.1.cell).c0; have e1 := (StoAt.of hV.1.cell).c1; have e2 := (StoAt.of hV.1.cell).c2; have e3 := (StoAt.of hV.1.cell).c3; have e4 := (StoAt.of hV.1.cell).c4; have e5 := (StoAt.of hV.1.cell).c5; have e6 := (StoAt.of hV.1.cell).c6; have e7 := (StoAt.of hV.1.cell).c7; have e8 := (StoAt.of hV.1.cell).c8; have e9 := (StoAt.of hV.1.cell).c9; have e10 := (StoAt.of hV.1.cell).c10; have e11 := (StoAt.of hV.1.cell).c11; go_simp
            try with_reducible rfl
          try simp only [Act.put, List.getElem_toArray, List.getElem_cons_zero, List.setIfInBounds_toArray, List.set_cons_zero, List.set_cons_succ]
          refine wpAnyH_take (i := 2) (v := ?_) rfl (by kernel_rfl) (by kernel_rfl) (by kernel_rfl) (fun _ _ _ h => h) (Or.inl ⟨by rfl, fun V hV => ?_⟩) (by assumption) ?_
          rotate_left
          · have hX := HR.out.below hV.2; have d0 := (hX.2 0 (.int .i64 bx.lo) rfl).1; have d1 := (hX.2 1 (.int .i64 bx.hi) rfl).1; have d2 := (hX.2 2 (.int .i64 bY.lo) rfl).1; have d3 := (hX.2 3 (.int .i64 bY.hi) rfl).1; go_simp
            try with_reducible rfl
          try simp only [Act.put, List.getElem_toArray, List.getElem_cons_zero, List.getElem_cons_succ, List.setIfInBounds_toArray, List.set_cons_zero, List.set_cons_succ]
          refine wpAnyH_ready (rs := [1]) (by kernel_rfl) (by simp) ?_
          refine AllReadyH.cons (o := _) rfl (fun K hK => ?_) AllReadyH.nil
          go_simp
          refine (storm20_any s p n c _ (HC.out.below hS.1.below) HN9.out).mono ?_
          rintro e s1 ⟨q9, m9, d9, rfl, hc9, hb⟩
          have HQ9 := hid hc9
          clear hc9
          refine hK.out _ _ (⟨hS.1.step hb, hS.2.trans (hb.mono hS.2.size)⟩) (fun hS => ?_)
          clear hK K
          try simp only [List.setIfInBounds_toArray, List.set_cons_zero, List.set_cons_succ]
          refine wpAnyH_ready (rs := [3]) (by kernel_rfl) (by simp) ?_
          refine AllReadyH.cons (o := _) rfl (fun K hK => ?_) AllReadyH.nil
          go_simp
          (with_reducible refine (rect40_any bx bY _).mono ?_)
          rintro e s3 ⟨rfl, hb⟩
          replace HQ9 := hid (HQ9.out.below hb)
          refine hK.out _ _ (⟨hS.1.step hb, hS.2.trans (hb.mono hS.2.size)⟩) (fun hS => ?_)
          clear hK K
          try simp only [List.setIfInBounds_toArray, List.set_cons_zero, List.set_cons_succ]
          refine wpAnyH_ready (rs := [4]) (by kernel_rfl) (by simp) ?_
          refine AllReadyH.cons (o := _) rfl (fun K hK => ?_) AllReadyH.nil
          go_simp
          refine (verdict_any s q9 m9 d9 bx bY _ HQ9.out).mono ?_
          rintro e w24 ⟨rfl, hb⟩
          rw [HV1.out, HE1.out]
          refine hK.out _ _ (⟨hS.1.step hb, hS.2.trans (hb.mono hS.2.size)⟩) (fun hS => ?_)
          clear hK K
          try simp only [List.setIfInBounds_toArray, List.set_cons_zero, List.set_cons_succ]
          refine wpAnyH_take (i := 5) (v := ?_) rfl (by kernel_rfl) (by kernel_rfl) (by kernel_rfl) (fun _ _ _ h => h) (Or.inl ⟨by rfl, fun V hV => ?_⟩) (by assumption) ?_
          rotate_left
          · go_simp
            try with_reducible rfl
          try simp only [Act.put, List.getElem_toArray, List.getElem_cons_zero, List.getElem_cons_succ, List.setIfInBounds_toArray, List.set_cons_zero, List.set_cons_succ]
          refine wpAnyH_take (i := 6) (v := ?_) rfl (by kernel_rfl) (by kernel_rfl) (by kernel_rfl) (fun _ _ _ h => h) (Or.inl ⟨by rfl, fun V hV => ?_⟩) (by assumption) ?_
          rotate_left
          · go_simp
            try with_reducible rfl
          try simp only [Act.put, List.getElem_toArray, List.getElem_cons_zero, List.getElem_cons_succ, List.setIfInBounds_toArray, List.set_cons_zero, List.set_cons_succ]
          refine wpAnyH_take (i := 7) (v := ?_) rfl (by kernel_rfl) (by kernel_rfl) (by kernel_rfl) (fun _ _ _ h => h) (Or.inl ⟨by rfl, fun V hV => ?_⟩) (by assumption) ?_
          rotate_left
          · go_simp
            try with_reducible rfl
          try simp only [Act.put, List.getElem_toArray, List.getElem_cons_zero, List.getElem_cons_succ, List.setIfInBounds_toArray, List.set_cons_zero, List.set_cons_succ]
          refine wpAnyH_take (i := 8) (v := ?_) rfl (by kernel_rfl) (by kernel_rfl) (by kernel_rfl) (fun _ _ _ h => h) (Or.inl ⟨by rfl, fun V hV => ?_⟩) (by assumption) ?_
          rotate_left
          · go_simp
            try with_reducible rfl
          try simp only [Act.put, List.getElem_toArray, List.getElem_cons_zero, List.getElem_cons_succ, List.setIfInBounds_toArray, List.set_cons_zero, List.set_cons_succ]
          refine wpAnyH_take (i := 9) (v := ?_) rfl (by kernel_rfl) (by kernel_rfl) (by kernel_rfl) (fun _ _ _ h => h) (Or.inl ⟨by rfl, fun V hV => ?_⟩) (by assumption) ?_
          rotate_left
          · go_simp
            try with_reducible rfl
          try simp only [Act.put, List.getElem_toArray, List.getElem_cons_zero, List.getElem_cons_succ, List.setIfInBounds_toArray, List.set_cons_zero, List.set_cons_succ]
          refine wpAnyH_done (by kernel_rfl) ?_ _
          have H24 := hid hS.1
          replace HX := hid (HX.out.below hS.2)
          replace HKX := hid (HKX.out.below hS.2)
          replace HR := hid (HR.out.below hS.2)
          replace HQ := hid (HQ.out.below hS.2)
          clear hS
          go_upto_region 14 with fail
          refine wp_region_held_drew (S := fun V => Boxed1 w #[.int .i64 s.wide, .int .i64 s.high, .int .i64 s.fall, .int .i64 s.a.lo, .int .i64 s.a.hi, .int .i64 s.b.lo, .int .i64 s.b.hi, .int .i64 s.half.lo, .int .i64 s.half.hi, .int .i64 s.peak.lo, .int .i64 s.peak.hi, .slice p n c] 26 V ∧ Below w24.heap.size w24 V) (by kernel_rfl) (⟨H24.out.drew, (Below.refl _ _).drew⟩) (fun hS => ?_)
          simp only [List.size_toArray, List.length_cons, List.length_nil, Nat.reduceAdd, Array.replicate_succ, Array.replicate_zero, List.push_toArray, List.nil_append, List.cons_append]
          refine wpAnyH_take (i := 0) (v := ?_) rfl (by kernel_rfl) (by kernel_rfl) (by kernel_rfl) (fun _ _ _ h => h) (Or.inl ⟨by rfl, fun V hV => ?_⟩) (by assumption) ?_
          rotate_left
          · have hX := HX.out.below hV.2; have e0 := (hX.2 0 (.int .i64 (flipS s).wide) rfl).1; have e1 := (hX.2 1 (.int .i64 (flipS s).high) rfl).1; have e2 := (hX.2 2 (.int .i64 (flipS s).fall) rfl).1; have e3 := (hX.2 3 (.int .i64 (flipS s).a.lo) rfl).1; have e4 := (hX.2 4 (.int .i64 (flipS s).a.hi) rfl).1; have e5 := (hX.2 5 (.int .i64 (flipS s).b.lo) rfl).1; have e6 := (hX.2 6 (.int .i64 (flipS s).b.hi) rfl).1; have e7 := (hX.2 7 (.int .i64 (flipS s).half.lo) rfl).1; have e8 := (hX.2 8 (.int .i64 (flipS s).half.hi) rfl).1; have e9 := (hX.2 9 (.int .i64 (flipS s).peak.lo) rfl).1; have e10 := (hX.2 10 (.int .i64 (flipS s).peak.hi) rfl).1; have e11 := (hX.2 11 (.slice q m d) rfl).1; go_simp
            try with_reducible rfl
          try simp only [Act.put, List.getElem_toArray, List.getElem_cons_zero, List.setIfInBounds_toArray, List.set_cons_zero, List.set_cons_succ]
          refine wpAnyH_take (i := 2) (v := ?_) rfl (by kernel_rfl) (by kernel_rfl) (by kernel_rfl) (fun _ _ _ h => h) (Or.inl ⟨by rfl, fun V hV => ?_⟩) (by assumption) ?_
          rotate_left
          · have hX := HQ.out.below hV.2; have d0 := (hX.2 0 (.int .i64 bx.lo) rfl).1; have d1 := (hX.2 1 (.int .i64 bx.hi) rfl).1; have d2 := (hX.2 2 (.int .i64 (flipR bY s.high).lo) rfl).1; have d3 := (hX.2 3 (.int .i64 (flipR bY s.high).hi) rfl).1; go_simp
            try with_reducible rfl
          try simp only [Act.put, List.getElem_toArray, List.getElem_cons_zero, List.getElem_cons_succ, List.setIfInBounds_toArray, List.set_cons_zero, List.set_cons_succ]
          refine wpAnyH_ready (rs := [1]) (by kernel_rfl) (by simp) ?_
          refine AllReadyH.cons (o := _) rfl (fun K hK => ?_) AllReadyH.nil
          go_simp
          refine (storm20_any (flipS s) q m d _ (HKX.out.below hS.2) HMX.out).mono ?_
          rintro e s1 ⟨q9, m9, d9, rfl, hc9, hb⟩
          have HQ9 := hid hc9
          clear hc9
          refine hK.out _ _ (⟨hS.1.step hb, hS.2.trans (hb.mono hS.2.size)⟩) (fun hS => ?_)
          clear hK K
          try simp only [List.setIfInBounds_toArray, List.set_cons_zero, List.set_cons_succ]
          refine wpAnyH_ready (rs := [3]) (by kernel_rfl) (by simp) ?_
          refine AllReadyH.cons (o := _) rfl (fun K hK => ?_) AllReadyH.nil
          go_simp
          (with_reducible refine (rect40_any bx (flipR bY s.high) _).mono ?_)
          rintro e s3 ⟨rfl, hb⟩
          replace HQ9 := hid (HQ9.out.below hb)
          refine hK.out _ _ (⟨hS.1.step hb, hS.2.trans (hb.mono hS.2.size)⟩) (fun hS => ?_)
          clear hK K
          try simp only [List.setIfInBounds_toArray, List.set_cons_zero, List.set_cons_succ]
          refine wpAnyH_ready (rs := [4]) (by kernel_rfl) (by simp) ?_
          refine AllReadyH.cons (o := _) rfl (fun K hK => ?_) AllReadyH.nil
          go_simp
          refine (verdict_any (flipS s) q9 m9 d9 bx (flipR bY s.high) _ HQ9.out).mono ?_
          rintro e w25 ⟨rfl, hb⟩
          rw [HV2.out, HE2.out]
          refine hK.out _ _ (⟨hS.1.step hb, hS.2.trans (hb.mono hS.2.size)⟩) (fun hS => ?_)
          clear hK K
          try simp only [List.setIfInBounds_toArray, List.set_cons_zero, List.set_cons_succ]
          refine wpAnyH_take (i := 5) (v := ?_) rfl (by kernel_rfl) (by kernel_rfl) (by kernel_rfl) (fun _ _ _ h => h) (Or.inl ⟨by rfl, fun V hV => ?_⟩) (by assumption) ?_
          rotate_left
          · go_simp
            try with_reducible rfl
          try simp only [Act.put, List.getElem_toArray, List.getElem_cons_zero, List.getElem_cons_succ, List.setIfInBounds_toArray, List.set_cons_zero, List.set_cons_succ]
          refine wpAnyH_take (i := 6) (v := ?_) rfl (by kernel_rfl) (by kernel_rfl) (by kernel_rfl) (fun _ _ _ h => h) (Or.inl ⟨by rfl, fun V hV => ?_⟩) (by assumption) ?_
          rotate_left
          · go_simp
            try with_reducible rfl
          try simp only [Act.put, List.getElem_toArray, List.getElem_cons_zero, List.getElem_cons_succ, List.setIfInBounds_toArray, List.set_cons_zero, List.set_cons_succ]
          refine wpAnyH_take (i := 7) (v := ?_) rfl (by kernel_rfl) (by kernel_rfl) (by kernel_rfl) (fun _ _ _ h => h) (Or.inl ⟨by rfl, fun V hV => ?_⟩) (by assumption) ?_
          rotate_left
          · go_simp
            try with_reducible rfl
          try simp only [Act.put, List.getElem_toArray, List.getElem_cons_zero, List.getElem_cons_succ, List.setIfInBounds_toArray, List.set_cons_zero, List.set_cons_succ]
          refine wpAnyH_take (i := 8) (v := ?_) rfl (by kernel_rfl) (by kernel_rfl) (by kernel_rfl) (fun _ _ _ h => h) (Or.inl ⟨by rfl, fun V hV => ?_⟩) (by assumption) ?_
          rotate_left
          · go_simp
            try with_reducible rfl
          try simp only [Act.put, List.getElem_toArray, List.getElem_cons_zero, List.getElem_cons_succ, List.setIfInBounds_toArray, List.set_cons_zero, List.set_cons_succ]
          refine wpAnyH_take (i := 9) (v := ?_) rfl (by kernel_rfl) (by kernel_rfl) (by kernel_rfl) (fun _ _ _ h => h) (Or.inl ⟨by rfl, fun V hV => ?_⟩) (by assumption) ?_
          rotate_left
          · go_simp
            try with_reducible rfl
          try simp only [Act.put, List.getElem_toArray, List.getElem_cons_zero, List.getElem_cons_succ, List.setIfInBounds_toArray, List.set_cons_zero, List.set_cons_succ]
          refine wpAnyH_done (by kernel_rfl) ?_ _
          have H25 := hid hS.1
          replace HX := hid (HX.out.below hS.2)
          replace HKX := hid (HKX.out.below hS.2)
          replace HR := hid (HR.out.below hS.2)
          replace HQ := hid (HQ.out.below hS.2)
          clear hS
          go_upto_region 15 with fail
          go_cut [14, 15] from 22 (fun a9 b9 wr => ∃ bt, a9 = .pointer (some ⟨bt, 0, none⟩) ∧ b9 = .int .i64 E ∧ BoxIs bt #[.int .i64 R.lo, .int .i64 R.hi] wr ∧ Boxed1 w #[.int .i64 s.wide, .int .i64 s.high, .int .i64 s.fall, .int .i64 s.a.lo, .int .i64 s.a.hi, .int .i64 s.b.lo, .int .i64 s.b.hi, .int .i64 s.half.lo, .int .i64 s.half.hi, .int .i64 s.peak.lo, .int .i64 s.peak.hi, .slice p n c] 26 wr ∧ Below w25.heap.size w25 wr)
          case first =>
            obtain ⟨wd, hwd⟩ : ∃ V, w25.drew = V := ⟨_, rfl⟩
            have HD := hid H25.out.drew
            replace HX := hid (HX.out.below (Below.refl _ _).drew)
            replace HKX := hid (HKX.out.below (Below.refl _ _).drew)
            replace HR := hid (HR.out.below (Below.refl _ _).drew)
            replace HQ := hid (HQ.out.below (Below.refl _ _).drew)
            rw [hwd] at HD HX HKX HR HQ
            have HWD : Hid (Below w25.heap.size w25 wd) := hid (by rw [← hwd]; exact (Below.refl _ _).drew)
            refine wp_region_held_drew (S := fun V => Boxed1 w #[.int .i64 s.wide, .int .i64 s.high, .int .i64 s.fall, .int .i64 s.a.lo, .int .i64 s.a.hi, .int .i64 s.b.lo, .int .i64 s.b.hi, .int .i64 s.half.lo, .int .i64 s.half.hi, .int .i64 s.peak.lo, .int .i64 s.peak.hi, .slice p n c] 26 V ∧ Below wd.heap.size wd V) (by kernel_rfl) (by rw [hwd]; exact ⟨HD.out, Below.refl _ _⟩) (fun hS => ?_)
            rw [hwd] at hS ⊢
            clear hwd
            simp only [List.size_toArray, List.length_cons, List.length_nil, Nat.reduceAdd, Array.replicate_succ, Array.replicate_zero, List.push_toArray, List.nil_append, List.cons_append]
            refine wpAnyH_take (i := 0) (v := ?_) rfl (by kernel_rfl) (by kernel_rfl) (by kernel_rfl) (fun _ _ _ h => h) (Or.inl ⟨by rfl, fun V hV => ?_⟩) (by assumption) ?_
            rotate_left
            · have e0 := (StoAt.of hV.1.cell).c0; have e1 := (StoAt.of hV.1.cell).c1; have e2 := (StoAt.of hV.1.cell).c2; have e3 := (StoAt.of hV.1.cell).c3; have e4 := (StoAt.of hV.1.cell).c4; have e5 := (StoAt.of hV.1.cell).c5; have e6 := (StoAt.of hV.1.cell).c6; have e7 := (StoAt.of hV.1.cell).c7; have e8 := (StoAt.of hV.1.cell).c8; have e9 := (StoAt.of hV.1.cell).c9; have e10 := (StoAt.of hV.1.cell).c10; have e11 := (StoAt.of hV.1.cell).c11; go_simp
              try with_reducible rfl
            try simp only [Act.put, List.getElem_toArray, List.getElem_cons_zero, List.setIfInBounds_toArray, List.set_cons_zero, List.set_cons_succ]
            refine wpAnyH_take (i := 2) (v := ?_) rfl (by kernel_rfl) (by kernel_rfl) (by kernel_rfl) (fun _ _ _ h => h) (Or.inl ⟨by rfl, fun V hV => ?_⟩) (by assumption) ?_
            rotate_left
            · go_simp
              try with_reducible rfl
            try simp only [Act.put, List.getElem_toArray, List.getElem_cons_zero, List.getElem_cons_succ, List.setIfInBounds_toArray, List.set_cons_zero, List.set_cons_succ]
            refine wpAnyH_take (i := 3) (v := ?_) rfl (by kernel_rfl) (by kernel_rfl) (by kernel_rfl) (fun _ _ _ h => h) (Or.inl ⟨by rfl, fun V hV => ?_⟩) (by assumption) ?_
            rotate_left
            · go_simp
              try with_reducible rfl
            try simp only [Act.put, List.getElem_toArray, List.getElem_cons_zero, List.getElem_cons_succ, List.setIfInBounds_toArray, List.set_cons_zero, List.set_cons_succ]
            refine wpAnyH_take (i := 4) (v := ?_) rfl (by kernel_rfl) (by kernel_rfl) (by kernel_rfl) (fun _ _ _ h => h) (Or.inl ⟨by rfl, fun V hV => ?_⟩) (by assumption) ?_
            rotate_left
            · have e1 := (StoAt.of hV.1.cell).c1; have hX := HR.out.below hV.2; have d0 := (hX.2 0 (.int .i64 bx.lo) rfl).1; have d1 := (hX.2 1 (.int .i64 bx.hi) rfl).1; have d2 := (hX.2 2 (.int .i64 bY.lo) rfl).1; have d3 := (hX.2 3 (.int .i64 bY.hi) rfl).1; go_simp
              try with_reducible rfl
            try simp only [Act.put, List.getElem_toArray, List.getElem_cons_zero, List.getElem_cons_succ, List.setIfInBounds_toArray, List.set_cons_zero, List.set_cons_succ]
            refine wpAnyH_take (i := 5) (v := ?_) rfl (by kernel_rfl) (by kernel_rfl) (by kernel_rfl) (fun _ _ _ h => h) (Or.inl ⟨by rfl, fun V hV => ?_⟩) (by assumption) ?_
            rotate_left
            · go_simp
              try with_reducible rfl
            try simp only [Act.put, List.getElem_toArray, List.getElem_cons_zero, List.getElem_cons_succ, List.setIfInBounds_toArray, List.set_cons_zero, List.set_cons_succ]
            refine wpAnyH_take (i := 6) (v := ?_) rfl (by kernel_rfl) (by kernel_rfl) (by kernel_rfl) (fun _ _ _ h => h) (Or.inl ⟨by rfl, fun V hV => ?_⟩) (by assumption) ?_
            rotate_left
            · go_simp
              try with_reducible rfl
            try simp only [Act.put, List.getElem_toArray, List.getElem_cons_zero, List.getElem_cons_succ, List.setIfInBounds_toArray, List.set_cons_zero, List.set_cons_succ]
            refine wpAnyH_take (i := 7) (v := ?_) rfl (by kernel_rfl) (by kernel_rfl) (by kernel_rfl) (fun _ _ _ h => h) (Or.inl ⟨by rfl, fun V hV => ?_⟩) (by assumption) ?_
            rotate_left
            · have e1 := (StoAt.of hV.1.cell).c1; have hX := HR.out.below hV.2; have d0 := (hX.2 0 (.int .i64 bx.lo) rfl).1; have d1 := (hX.2 1 (.int .i64 bx.hi) rfl).1; have d2 := (hX.2 2 (.int .i64 bY.lo) rfl).1; have d3 := (hX.2 3 (.int .i64 bY.hi) rfl).1; go_simp
              try with_reducible rfl
            try simp only [Act.put, List.getElem_toArray, List.getElem_cons_zero, List.getElem_cons_succ, List.setIfInBounds_toArray, List.set_cons_zero, List.set_cons_succ]
            refine wpAnyH_ready (rs := [1, 12]) (by kernel_rfl) (by simp) ?_
            refine AllReadyH.cons (o := _) rfl (fun K hK => ?_) ?_
            · skip
              go_simp
              refine (storm20_any s p n c _ (HC.out.below hS.1.below) HN9.out).mono ?_
              rintro e v1 ⟨q9, m9, d9, rfl, hc9, hb⟩
              have HQ9 := hid hc9
              clear hc9
              refine hK.out _ _ (⟨hS.1.step hb, hS.2.trans (hb.mono hS.2.size)⟩) (fun hS => ?_)
              clear hK K
              try simp only [List.setIfInBounds_toArray, List.set_cons_zero, List.set_cons_succ]
              refine wpAnyH_ready (rs := [8, 12]) (by kernel_rfl) (by simp) ?_
              refine AllReadyH.cons (o := _) rfl (fun K hK => ?_) ?_
              · skip
                go_simp
                (with_reducible refine (sizes_any s q9 m9 d9 bx.lo bY.lo _ HQ9.out).mono ?_)
                rintro e v8 ⟨rfl, hb⟩
                rw [HR1.out, HE3.out]
                refine hK.out _ _ (⟨hS.1.step hb, hS.2.trans (hb.mono hS.2.size)⟩) (fun hS => ?_)
                clear hK K
                try simp only [List.setIfInBounds_toArray, List.set_cons_zero, List.set_cons_succ]
                refine wpAnyH_take (i := 9) (v := ?_) rfl (by kernel_rfl) (by kernel_rfl) (by kernel_rfl) (fun _ _ _ h => h) (Or.inl ⟨by rfl, fun V hV => ?_⟩) (by assumption) ?_
                rotate_left
                · go_simp
                  try with_reducible rfl
                try simp only [Act.put, List.getElem_toArray, List.getElem_cons_zero, List.getElem_cons_succ, List.setIfInBounds_toArray, List.set_cons_zero, List.set_cons_succ]
                refine wpAnyH_take (i := 10) (v := ?_) rfl (by kernel_rfl) (by kernel_rfl) (by kernel_rfl) (fun _ _ _ h => h) (Or.inl ⟨by rfl, fun V hV => ?_⟩) (by assumption) ?_
                rotate_left
                · go_simp
                  try with_reducible rfl
                try simp only [Act.put, List.getElem_toArray, List.getElem_cons_zero, List.getElem_cons_succ, List.setIfInBounds_toArray, List.set_cons_zero, List.set_cons_succ]
                refine wpAnyH_take (i := 11) (v := ?_) rfl (by kernel_rfl) (by kernel_rfl) (by kernel_rfl) (fun _ _ _ h => h) (Or.inl ⟨by rfl, fun V hV => ?_⟩) (by assumption) ?_
                rotate_left
                · go_simp
                  try with_reducible rfl
                try simp only [Act.put, List.getElem_toArray, List.getElem_cons_zero, List.getElem_cons_succ, List.setIfInBounds_toArray, List.set_cons_zero, List.set_cons_succ]
                refine wpAnyH_ready (rs := [12]) (by kernel_rfl) (by simp) ?_
                refine AllReadyH.cons (o := _) rfl (fun K hK => ?_) AllReadyH.nil
                obtain ⟨v12, hv12⟩ : ∃ V, v8.alloc (.cells #[.int .i64 0, .int .i64 0] 29) = V := ⟨_, rfl⟩
                have hb : Below v8.heap.size v8 v12 := by rw [← hv12]; exact (Below.refl _ _).alloc (Nat.le_refl _) _
                have HN : Hid (BoxIs v8.heap.size #[.int .i64 0, .int .i64 0] v12) := by show BoxIs _ _ _; rw [← hv12]; exact BoxIs.start _ _ _
                have HL : Hid (wd.heap.size ≤ v8.heap.size) := hid hS.2.size
                go_simp
                refine hK.out _ _ (⟨hS.1.step hb, hS.2.trans (hb.mono hS.2.size)⟩) (fun hS => ?_)
                clear hK K
                try simp only [List.setIfInBounds_toArray, List.set_cons_zero, List.set_cons_succ]
                refine wpAnyH_ready (rs := [13]) (by kernel_rfl) (by simp) ?_
                refine AllReadyH.cons (o := _) rfl (fun K hK => ?_) AllReadyH.nil
                have k0 := (HN.out.2 0 (.int .i64 0) rfl).1; have f0 := (HN.out.2 0 (.int .i64 0) rfl).2
                have k1 := (HN.out.2 1 (.int .i64 0) rfl).1; have f1 := (HN.out.2 1 (.int .i64 0) rfl).2
                have HP : Hid (BoxIs v8.heap.size #[.int .i64 R.lo, .int .i64 R.hi] ((v12.setCell ⟨v8.heap.size, 0, none⟩ (.int .i64 R.lo)).setCell ⟨v8.heap.size, 1, none⟩ (.int .i64 R.hi))) := hid ((HN.out.put (j := 0) (.int .i64 R.lo)).put (j := 1) (.int .i64 R.hi))
                have HSW := hid (hS.1.step' ((((Below.refl wd.heap.size v12).setCell (p := ⟨v8.heap.size, 0, none⟩) HL.out (.int .i64 R.lo)).setCell (p := ⟨v8.heap.size, 1, none⟩) HL.out (.int .i64 R.hi)).mono (by have := HD.out.size; exact this)))
                have HSB := hid (hS.2.trans (((Below.refl wd.heap.size v12).setCell (p := ⟨v8.heap.size, 0, none⟩) HL.out (.int .i64 R.lo)).setCell (p := ⟨v8.heap.size, 1, none⟩) HL.out (.int .i64 R.hi)))
                clear hS
                go_simp
                clear k0 f0 k1 f1
                generalize ((v12.setCell ⟨v8.heap.size, 0, none⟩ (.int .i64 R.lo)).setCell ⟨v8.heap.size, 1, none⟩ (.int .i64 R.hi)) = V9 at HP HSW HSB ⊢
                replace HN := HP
                refine hK.out _ _ (⟨HSW.out, HSB.out⟩) (fun hS => ?_)
                clear hK K
                try simp only [List.setIfInBounds_toArray, List.set_cons_zero, List.set_cons_succ]
                refine wpAnyH_take (i := 14) (v := ?_) rfl (by kernel_rfl) (by kernel_rfl) (by kernel_rfl) (fun _ _ _ h => h) (Or.inl ⟨by rfl, fun V hV => ?_⟩) (by assumption) ?_
                rotate_left
                · go_simp
                  try with_reducible rfl
                try simp only [Act.put, List.getElem_toArray, List.getElem_cons_zero, List.getElem_cons_succ, List.setIfInBounds_toArray, List.set_cons_zero, List.set_cons_succ]
                refine wpAnyH_done (by kernel_rfl) ?_ _
                go_wp2
                go_meet
                case rel => exact ⟨_, rfl, rfl, HN.out, hS.1, HWD.out.trans (hS.2.mono HWD.out.size)⟩
              refine AllReadyH.cons (o := _) rfl (fun K hK => ?_) AllReadyH.nil
              obtain ⟨v12, hv12⟩ : ∃ V, v1.alloc (.cells #[.int .i64 0, .int .i64 0] 29) = V := ⟨_, rfl⟩
              have hb : Below v1.heap.size v1 v12 := by rw [← hv12]; exact (Below.refl _ _).alloc (Nat.le_refl _) _
              have HN : Hid (BoxIs v1.heap.size #[.int .i64 0, .int .i64 0] v12) := by show BoxIs _ _ _; rw [← hv12]; exact BoxIs.start _ _ _
              have HL : Hid (wd.heap.size ≤ v1.heap.size) := hid hS.2.size
              replace HQ9 := hid (HQ9.out.below hb)
              go_simp
              refine hK.out _ _ (⟨hS.1.step hb, hS.2.trans (hb.mono hS.2.size)⟩) (fun hS => ?_)
              clear hK K
              try simp only [List.setIfInBounds_toArray, List.set_cons_zero, List.set_cons_succ]
              refine wpAnyH_ready (rs := [8]) (by kernel_rfl) (by simp) ?_
              refine AllReadyH.cons (o := _) rfl (fun K hK => ?_) AllReadyH.nil
              go_simp
              (with_reducible refine (sizes_any s q9 m9 d9 bx.lo bY.lo _ HQ9.out).mono ?_)
              rintro e v8 ⟨rfl, hb⟩
              rw [HR1.out, HE3.out]
              replace HN := hid (HN.out.below hb)
              refine hK.out _ _ (⟨hS.1.step hb, hS.2.trans (hb.mono hS.2.size)⟩) (fun hS => ?_)
              clear hK K
              try simp only [List.setIfInBounds_toArray, List.set_cons_zero, List.set_cons_succ]
              refine wpAnyH_take (i := 9) (v := ?_) rfl (by kernel_rfl) (by kernel_rfl) (by kernel_rfl) (fun _ _ _ h => h) (Or.inl ⟨by rfl, fun V hV => ?_⟩) (by assumption) ?_
              rotate_left
              · go_simp
                try with_reducible rfl
              try simp only [Act.put, List.getElem_toArray, List.getElem_cons_zero, List.getElem_cons_succ, List.setIfInBounds_toArray, List.set_cons_zero, List.set_cons_succ]
              refine wpAnyH_take (i := 10) (v := ?_) rfl (by kernel_rfl) (by kernel_rfl) (by kernel_rfl) (fun _ _ _ h => h) (Or.inl ⟨by rfl, fun V hV => ?_⟩) (by assumption) ?_
              rotate_left
              · go_simp
                try with_reducible rfl
              try simp only [Act.put, List.getElem_toArray, List.getElem_cons_zero, List.getElem_cons_succ, List.setIfInBounds_toArray, List.set_cons_zero, List.set_cons_succ]
              refine wpAnyH_take (i := 11) (v := ?_) rfl (by kernel_rfl) (by kernel_rfl) (by kernel_rfl) (fun _ _ _ h => h) (Or.inl ⟨by rfl, fun V hV => ?_⟩) (by assumption) ?_
              rotate_left
              · go_simp
                try with_reducible rfl
              try simp only [Act.put, List.getElem_toArray, List.getElem_cons_zero, List.getElem_cons_succ, List.setIfInBounds_toArray, List.set_cons_zero, List.set_cons_succ]
              refine wpAnyH_ready (rs := [13]) (by kernel_rfl) (by simp) ?_
              refine AllReadyH.cons (o := _) rfl (fun K hK => ?_) AllReadyH.nil
              have k0 := (HN.out.2 0 (.int .i64 0) rfl).1; have f0 := (HN.out.2 0 (.int .i64 0) rfl).2
              have k1 := (HN.out.2 1 (.int .i64 0) rfl).1; have f1 := (HN.out.2 1 (.int .i64 0) rfl).2
              have HP : Hid (BoxIs v1.heap.size #[.int .i64 R.lo, .int .i64 R.hi] ((v8.setCell ⟨v1.heap.size, 0, none⟩ (.int .i64 R.lo)).setCell ⟨v1.heap.size, 1, none⟩ (.int .i64 R.hi))) := hid ((HN.out.put (j := 0) (.int .i64 R.lo)).put (j := 1) (.int .i64 R.hi))
              have HSW := hid (hS.1.step' ((((Below.refl wd.heap.size v8).setCell (p := ⟨v1.heap.size, 0, none⟩) HL.out (.int .i64 R.lo)).setCell (p := ⟨v1.heap.size, 1, none⟩) HL.out (.int .i64 R.hi)).mono (by have := HD.out.size; exact this)))
              have HSB := hid (hS.2.trans (((Below.refl wd.heap.size v8).setCell (p := ⟨v1.heap.size, 0, none⟩) HL.out (.int .i64 R.lo)).setCell (p := ⟨v1.heap.size, 1, none⟩) HL.out (.int .i64 R.hi)))
              clear hS
              go_simp
              clear k0 f0 k1 f1
              generalize ((v8.setCell ⟨v1.heap.size, 0, none⟩ (.int .i64 R.lo)).setCell ⟨v1.heap.size, 1, none⟩ (.int .i64 R.hi)) = V9 at HP HSW HSB ⊢
              replace HN := HP
              refine hK.out _ _ (⟨HSW.out, HSB.out⟩) (fun hS => ?_)
              clear hK K
              try simp only [List.setIfInBounds_toArray, List.set_cons_zero, List.set_cons_succ]
              refine wpAnyH_take (i := 14) (v := ?_) rfl (by kernel_rfl) (by kernel_rfl) (by kernel_rfl) (fun _ _ _ h => h) (Or.inl ⟨by rfl, fun V hV => ?_⟩) (by assumption) ?_
              rotate_left
              · go_simp
                try with_reducible rfl
              try simp only [Act.put, List.getElem_toArray, List.getElem_cons_zero, List.getElem_cons_succ, List.setIfInBounds_toArray, List.set_cons_zero, List.set_cons_succ]
              refine wpAnyH_done (by kernel_rfl) ?_ _
              go_wp2
              go_meet
              case rel => exact ⟨_, rfl, rfl, HN.out, hS.1, HWD.out.trans (hS.2.mono HWD.out.size)⟩
            refine AllReadyH.cons (o := _) rfl (fun K hK => ?_) AllReadyH.nil
            obtain ⟨v12, hv12⟩ : ∃ V, wd.alloc (.cells #[.int .i64 0, .int .i64 0] 29) = V := ⟨_, rfl⟩
            have hb : Below wd.heap.size wd v12 := by rw [← hv12]; exact (Below.refl _ _).alloc (Nat.le_refl _) _
            have HN : Hid (BoxIs wd.heap.size #[.int .i64 0, .int .i64 0] v12) := by show BoxIs _ _ _; rw [← hv12]; exact BoxIs.start _ _ _
            have HL : Hid (wd.heap.size ≤ wd.heap.size) := hid hS.2.size
            go_simp
            refine hK.out _ _ (⟨hS.1.step hb, hS.2.trans (hb.mono hS.2.size)⟩) (fun hS => ?_)
            clear hK K
            try simp only [List.setIfInBounds_toArray, List.set_cons_zero, List.set_cons_succ]
            refine wpAnyH_ready (rs := [1]) (by kernel_rfl) (by simp) ?_
            refine AllReadyH.cons (o := _) rfl (fun K hK => ?_) AllReadyH.nil
            go_simp
            refine (storm20_any s p n c _ (HC.out.below hS.1.below) HN9.out).mono ?_
            rintro e v1 ⟨q9, m9, d9, rfl, hc9, hb⟩
            have HQ9 := hid hc9
            clear hc9
            replace HN := hid (HN.out.below hb)
            refine hK.out _ _ (⟨hS.1.step hb, hS.2.trans (hb.mono hS.2.size)⟩) (fun hS => ?_)
            clear hK K
            try simp only [List.setIfInBounds_toArray, List.set_cons_zero, List.set_cons_succ]
            refine wpAnyH_ready (rs := [8]) (by kernel_rfl) (by simp) ?_
            refine AllReadyH.cons (o := _) rfl (fun K hK => ?_) AllReadyH.nil
            go_simp
            (with_reducible refine (sizes_any s q9 m9 d9 bx.lo bY.lo _ HQ9.out).mono ?_)
            rintro e v8 ⟨rfl, hb⟩
            rw [HR1.out, HE3.out]
            replace HN := hid (HN.out.below hb)
            refine hK.out _ _ (⟨hS.1.step hb, hS.2.trans (hb.mono hS.2.size)⟩) (fun hS => ?_)
            clear hK K
            try simp only [List.setIfInBounds_toArray, List.set_cons_zero, List.set_cons_succ]
            refine wpAnyH_take (i := 9) (v := ?_) rfl (by kernel_rfl) (by kernel_rfl) (by kernel_rfl) (fun _ _ _ h => h) (Or.inl ⟨by rfl, fun V hV => ?_⟩) (by assumption) ?_
            rotate_left
            · go_simp
              try with_reducible rfl
            try simp only [Act.put, List.getElem_toArray, List.getElem_cons_zero, List.getElem_cons_succ, List.setIfInBounds_toArray, List.set_cons_zero, List.set_cons_succ]
            refine wpAnyH_take (i := 10) (v := ?_) rfl (by kernel_rfl) (by kernel_rfl) (by kernel_rfl) (fun _ _ _ h => h) (Or.inl ⟨by rfl, fun V hV => ?_⟩) (by assumption) ?_
            rotate_left
            · go_simp
              try with_reducible rfl
            try simp only [Act.put, List.getElem_toArray, List.getElem_cons_zero, List.getElem_cons_succ, List.setIfInBounds_toArray, List.set_cons_zero, List.set_cons_succ]
            refine wpAnyH_take (i := 11) (v := ?_) rfl (by kernel_rfl) (by kernel_rfl) (by kernel_rfl) (fun _ _ _ h => h) (Or.inl ⟨by rfl, fun V hV => ?_⟩) (by assumption) ?_
            rotate_left
            · go_simp
              try with_reducible rfl
            try simp only [Act.put, List.getElem_toArray, List.getElem_cons_zero, List.getElem_cons_succ, List.setIfInBounds_toArray, List.set_cons_zero, List.set_cons_succ]
            refine wpAnyH_ready (rs := [13]) (by kernel_rfl) (by simp) ?_
            refine AllReadyH.cons (o := _) rfl (fun K hK => ?_) AllReadyH.nil
            have k0 := (HN.out.2 0 (.int .i64 0) rfl).1; have f0 := (HN.out.2 0 (.int .i64 0) rfl).2
            have k1 := (HN.out.2 1 (.int .i64 0) rfl).1; have f1 := (HN.out.2 1 (.int .i64 0) rfl).2
            have HP : Hid (BoxIs wd.heap.size #[.int .i64 R.lo, .int .i64 R.hi] ((v8.setCell ⟨wd.heap.size, 0, none⟩ (.int .i64 R.lo)).setCell ⟨wd.heap.size, 1, none⟩ (.int .i64 R.hi))) := hid ((HN.out.put (j := 0) (.int .i64 R.lo)).put (j := 1) (.int .i64 R.hi))
            have HSW := hid (hS.1.step' ((((Below.refl wd.heap.size v8).setCell (p := ⟨wd.heap.size, 0, none⟩) HL.out (.int .i64 R.lo)).setCell (p := ⟨wd.heap.size, 1, none⟩) HL.out (.int .i64 R.hi)).mono (by have := HD.out.size; exact this)))
            have HSB := hid (hS.2.trans (((Below.refl wd.heap.size v8).setCell (p := ⟨wd.heap.size, 0, none⟩) HL.out (.int .i64 R.lo)).setCell (p := ⟨wd.heap.size, 1, none⟩) HL.out (.int .i64 R.hi)))
            clear hS
            go_simp
            clear k0 f0 k1 f1
            generalize ((v8.setCell ⟨wd.heap.size, 0, none⟩ (.int .i64 R.lo)).setCell ⟨wd.heap.size, 1, none⟩ (.int .i64 R.hi)) = V9 at HP HSW HSB ⊢
            replace HN := HP
            refine hK.out _ _ (⟨HSW.out, HSB.out⟩) (fun hS => ?_)
            clear hK K
            try simp only [List.setIfInBounds_toArray, List.set_cons_zero, List.set_cons_succ]
            refine wpAnyH_take (i := 14) (v := ?_) rfl (by kernel_rfl) (by kernel_rfl) (by kernel_rfl) (fun _ _ _ h => h) (Or.inl ⟨by rfl, fun V hV => ?_⟩) (by assumption) ?_
            rotate_left
            · go_simp
              try with_reducible rfl
            try simp only [Act.put, List.getElem_toArray, List.getElem_cons_zero, List.getElem_cons_succ, List.setIfInBounds_toArray, List.set_cons_zero, List.set_cons_succ]
            refine wpAnyH_done (by kernel_rfl) ?_ _
            go_wp2
            go_meet
            case rel => exact ⟨_, rfl, rfl, HN.out, hS.1, HWD.out.trans (hS.2.mono HWD.out.size)⟩
          case rest =>
            obtain ⟨btHA, rfl, rfl, hn, hw, hbw⟩ := hcut
            have HA := hid hn; have H26 := hid hw
            replace HX := hid (HX.out.below hbw)
            replace HKX := hid (HKX.out.below hbw)
            replace HR := hid (HR.out.below hbw)
            replace HQ := hid (HQ.out.below hbw)
            clear hn hw hbw
            generalize wc = w26 at HX HKX HR HQ HA H26 ⊢
            go_upto_region 16 with fail
            go_cut [16, 17] from 22 (fun a9 b9 wr => ∃ bt, a9 = .pointer (some ⟨bt, 0, none⟩) ∧ b9 = .int .i64 E ∧ BoxIs bt #[.int .i64 R.lo, .int .i64 R.hi] wr ∧ Boxed1 w #[.int .i64 s.wide, .int .i64 s.high, .int .i64 s.fall, .int .i64 s.a.lo, .int .i64 s.a.hi, .int .i64 s.b.lo, .int .i64 s.b.hi, .int .i64 s.half.lo, .int .i64 s.half.hi, .int .i64 s.peak.lo, .int .i64 s.peak.hi, .slice p n c] 26 wr ∧ Below w26.heap.size w26 wr)
            case first =>
              obtain ⟨wd, hwd⟩ : ∃ V, w26.drew = V := ⟨_, rfl⟩
              have HD := hid H26.out.drew
              replace HX := hid (HX.out.below (Below.refl _ _).drew)
              replace HKX := hid (HKX.out.below (Below.refl _ _).drew)
              replace HR := hid (HR.out.below (Below.refl _ _).drew)
              replace HQ := hid (HQ.out.below (Below.refl _ _).drew)
              replace HA := hid (HA.out.below (Below.refl _ _).drew)
              rw [hwd] at HD HX HKX HR HQ HA
              have HWD : Hid (Below w26.heap.size w26 wd) := hid (by rw [← hwd]; exact (Below.refl _ _).drew)
              refine wp_region_held_drew (S := fun V => Boxed1 w #[.int .i64 s.wide, .int .i64 s.high, .int .i64 s.fall, .int .i64 s.a.lo, .int .i64 s.a.hi, .int .i64 s.b.lo, .int .i64 s.b.hi, .int .i64 s.half.lo, .int .i64 s.half.hi, .int .i64 s.peak.lo, .int .i64 s.peak.hi, .slice p n c] 26 V ∧ Below wd.heap.size wd V) (by kernel_rfl) (by rw [hwd]; exact ⟨HD.out, Below.refl _ _⟩) (fun hS => ?_)
              rw [hwd] at hS ⊢
              clear hwd
              simp only [List.size_toArray, List.length_cons, List.length_nil, Nat.reduceAdd, Array.replicate_succ, Array.replicate_zero, List.push_toArray, List.nil_append, List.cons_append]
              refine wpAnyH_take (i := 0) (v := ?_) rfl (by kernel_rfl) (by kernel_rfl) (by kernel_rfl) (fun _ _ _ h => h) (Or.inl ⟨by rfl, fun V hV => ?_⟩) (by assumption) ?_
              rotate_left
              · have hX := HX.out.below hV.2; have e0 := (hX.2 0 (.int .i64 (flipS s).wide) rfl).1; have e1 := (hX.2 1 (.int .i64 (flipS s).high) rfl).1; have e2 := (hX.2 2 (.int .i64 (flipS s).fall) rfl).1; have e3 := (hX.2 3 (.int .i64 (flipS s).a.lo) rfl).1; have e4 := (hX.2 4 (.int .i64 (flipS s).a.hi) rfl).1; have e5 := (hX.2 5 (.int .i64 (flipS s).b.lo) rfl).1; have e6 := (hX.2 6 (.int .i64 (flipS s).b.hi) rfl).1; have e7 := (hX.2 7 (.int .i64 (flipS s).half.lo) rfl).1; have e8 := (hX.2 8 (.int .i64 (flipS s).half.hi) rfl).1; have e9 := (hX.2 9 (.int .i64 (flipS s).peak.lo) rfl).1; have e10 := (hX.2 10 (.int .i64 (flipS s).peak.hi) rfl).1; have e11 := (hX.2 11 (.slice q m d) rfl).1; go_simp
                try with_reducible rfl
              try simp only [Act.put, List.getElem_toArray, List.getElem_cons_zero, List.setIfInBounds_toArray, List.set_cons_zero, List.set_cons_succ]
              refine wpAnyH_take (i := 2) (v := ?_) rfl (by kernel_rfl) (by kernel_rfl) (by kernel_rfl) (fun _ _ _ h => h) (Or.inl ⟨by rfl, fun V hV => ?_⟩) (by assumption) ?_
              rotate_left
              · go_simp
                try with_reducible rfl
              try simp only [Act.put, List.getElem_toArray, List.getElem_cons_zero, List.getElem_cons_succ, List.setIfInBounds_toArray, List.set_cons_zero, List.set_cons_succ]
              refine wpAnyH_take (i := 3) (v := ?_) rfl (by kernel_rfl) (by kernel_rfl) (by kernel_rfl) (fun _ _ _ h => h) (Or.inl ⟨by rfl, fun V hV => ?_⟩) (by assumption) ?_
              rotate_left
              · go_simp
                try with_reducible rfl
              try simp only [Act.put, List.getElem_toArray, List.getElem_cons_zero, List.getElem_cons_succ, List.setIfInBounds_toArray, List.set_cons_zero, List.set_cons_succ]
              refine wpAnyH_take (i := 4) (v := ?_) rfl (by kernel_rfl) (by kernel_rfl) (by kernel_rfl) (fun _ _ _ h => h) (Or.inl ⟨by rfl, fun V hV => ?_⟩) (by assumption) ?_
              rotate_left
              · have e1 := (StoAt.of hV.1.cell).c1; have hX := HR.out.below hV.2; have d0 := (hX.2 0 (.int .i64 bx.lo) rfl).1; have d1 := (hX.2 1 (.int .i64 bx.hi) rfl).1; have d2 := (hX.2 2 (.int .i64 bY.lo) rfl).1; have d3 := (hX.2 3 (.int .i64 bY.hi) rfl).1; go_simp
                try with_reducible rfl
              try simp only [Act.put, List.getElem_toArray, List.getElem_cons_zero, List.getElem_cons_succ, List.setIfInBounds_toArray, List.set_cons_zero, List.set_cons_succ]
              refine wpAnyH_take (i := 5) (v := ?_) rfl (by kernel_rfl) (by kernel_rfl) (by kernel_rfl) (fun _ _ _ h => h) (Or.inl ⟨by rfl, fun V hV => ?_⟩) (by assumption) ?_
              rotate_left
              · go_simp
                try with_reducible rfl
              try simp only [Act.put, List.getElem_toArray, List.getElem_cons_zero, List.getElem_cons_succ, List.setIfInBounds_toArray, List.set_cons_zero, List.set_cons_succ]
              refine wpAnyH_take (i := 6) (v := ?_) rfl (by kernel_rfl) (by kernel_rfl) (by kernel_rfl) (fun _ _ _ h => h) (Or.inl ⟨by rfl, fun V hV => ?_⟩) (by assumption) ?_
              rotate_left
              · have e1 := (StoAt.of hV.1.cell).c1; have hX := HR.out.below hV.2; have d0 := (hX.2 0 (.int .i64 bx.lo) rfl).1; have d1 := (hX.2 1 (.int .i64 bx.hi) rfl).1; have d2 := (hX.2 2 (.int .i64 bY.lo) rfl).1; have d3 := (hX.2 3 (.int .i64 bY.hi) rfl).1; go_simp
                try with_reducible rfl
              try simp only [Act.put, List.getElem_toArray, List.getElem_cons_zero, List.getElem_cons_succ, List.setIfInBounds_toArray, List.set_cons_zero, List.set_cons_succ]
              refine wpAnyH_take (i := 7) (v := ?_) rfl (by kernel_rfl) (by kernel_rfl) (by kernel_rfl) (fun _ _ _ h => h) (Or.inl ⟨by rfl, fun V hV => ?_⟩) (by assumption) ?_
              rotate_left
              · have hw1 := HWA.out; have hw2 := HWB.out; go_simp
                try with_reducible rfl
              try simp only [Act.put, List.getElem_toArray, List.getElem_cons_zero, List.getElem_cons_succ, List.setIfInBounds_toArray, List.set_cons_zero, List.set_cons_succ]
              refine wpAnyH_take (i := 8) (v := ?_) rfl (by kernel_rfl) (by kernel_rfl) (by kernel_rfl) (fun _ _ _ h => h) (Or.inl ⟨by rfl, fun V hV => ?_⟩) (by assumption) ?_
              rotate_left
              · go_simp
                try with_reducible rfl
              try simp only [Act.put, List.getElem_toArray, List.getElem_cons_zero, List.getElem_cons_succ, List.setIfInBounds_toArray, List.set_cons_zero, List.set_cons_succ]
              refine wpAnyH_take (i := 9) (v := ?_) rfl (by kernel_rfl) (by kernel_rfl) (by kernel_rfl) (fun _ _ _ h => h) (Or.inl ⟨by rfl, fun V hV => ?_⟩) (by assumption) ?_
              rotate_left
              · go_simp
                try with_reducible rfl
              try simp only [Act.put, List.getElem_toArray, List.getElem_cons_zero, List.getElem_cons_succ, List.setIfInBounds_toArray, List.set_cons_zero, List.set_cons_succ]
              refine wpAnyH_take (i := 10) (v := ?_) rfl (by kernel_rfl) (by kernel_rfl) (by kernel_rfl) (fun _ _ _ h => h) (Or.inl ⟨by rfl, fun V hV => ?_⟩) (by assumption) ?_
              rotate_left
              · have e1 := (StoAt.of hV.1.cell).c1; have hX := HR.out.below hV.2; have d0 := (hX.2 0 (.int .i64 bx.lo) rfl).1; have d1 := (hX.2 1 (.int .i64 bx.hi) rfl).1; have d2 := (hX.2 2 (.int .i64 bY.lo) rfl).1; have d3 := (hX.2 3 (.int .i64 bY.hi) rfl).1; go_simp
                try with_reducible rfl
              try simp only [Act.put, List.getElem_toArray, List.getElem_cons_zero, List.getElem_cons_succ, List.setIfInBounds_toArray, List.set_cons_zero, List.set_cons_succ]
              refine wpAnyH_take (i := 11) (v := ?_) rfl (by kernel_rfl) (by kernel_rfl) (by kernel_rfl) (fun _ _ _ h => h) (Or.inl ⟨by rfl, fun V hV => ?_⟩) (by assumption) ?_
              rotate_left
              · have hw1 := HWA.out; have hw2 := HWB.out; go_simp
                try with_reducible rfl
              try simp only [Act.put, List.getElem_toArray, List.getElem_cons_zero, List.getElem_cons_succ, List.setIfInBounds_toArray, List.set_cons_zero, List.set_cons_succ]
              refine wpAnyH_ready (rs := [1, 16]) (by kernel_rfl) (by simp) ?_
              refine AllReadyH.cons (o := _) rfl (fun K hK => ?_) ?_
              · skip
                go_simp
                refine (storm20_any (flipS s) q m d _ (HKX.out.below hS.2) HMX.out).mono ?_
                rintro e v1 ⟨q9, m9, d9, rfl, hc9, hb⟩
                have HQ9 := hid hc9
                clear hc9
                refine hK.out _ _ (⟨hS.1.step hb, hS.2.trans (hb.mono hS.2.size)⟩) (fun hS => ?_)
                clear hK K
                try simp only [List.setIfInBounds_toArray, List.set_cons_zero, List.set_cons_succ]
                refine wpAnyH_ready (rs := [12, 16]) (by kernel_rfl) (by simp) ?_
                refine AllReadyH.cons (o := _) rfl (fun K hK => ?_) ?_
                · skip
                  go_simp
                  (with_reducible refine (sizes_any (flipS s) q9 m9 d9 bx.lo (s.high - 1 - bY.lo) _ HQ9.out).mono ?_)
                  rintro e v12 ⟨rfl, hb⟩
                  rw [HR2.out, HE4.out]
                  refine hK.out _ _ (⟨hS.1.step hb, hS.2.trans (hb.mono hS.2.size)⟩) (fun hS => ?_)
                  clear hK K
                  try simp only [List.setIfInBounds_toArray, List.set_cons_zero, List.set_cons_succ]
                  refine wpAnyH_take (i := 13) (v := ?_) rfl (by kernel_rfl) (by kernel_rfl) (by kernel_rfl) (fun _ _ _ h => h) (Or.inl ⟨by rfl, fun V hV => ?_⟩) (by assumption) ?_
                  rotate_left
                  · go_simp
                    try with_reducible rfl
                  try simp only [Act.put, List.getElem_toArray, List.getElem_cons_zero, List.getElem_cons_succ, List.setIfInBounds_toArray, List.set_cons_zero, List.set_cons_succ]
                  refine wpAnyH_take (i := 14) (v := ?_) rfl (by kernel_rfl) (by kernel_rfl) (by kernel_rfl) (fun _ _ _ h => h) (Or.inl ⟨by rfl, fun V hV => ?_⟩) (by assumption) ?_
                  rotate_left
                  · go_simp
                    try with_reducible rfl
                  try simp only [Act.put, List.getElem_toArray, List.getElem_cons_zero, List.getElem_cons_succ, List.setIfInBounds_toArray, List.set_cons_zero, List.set_cons_succ]
                  refine wpAnyH_take (i := 15) (v := ?_) rfl (by kernel_rfl) (by kernel_rfl) (by kernel_rfl) (fun _ _ _ h => h) (Or.inl ⟨by rfl, fun V hV => ?_⟩) (by assumption) ?_
                  rotate_left
                  · go_simp
                    try with_reducible rfl
                  try simp only [Act.put, List.getElem_toArray, List.getElem_cons_zero, List.getElem_cons_succ, List.setIfInBounds_toArray, List.set_cons_zero, List.set_cons_succ]
                  refine wpAnyH_ready (rs := [16]) (by kernel_rfl) (by simp) ?_
                  refine AllReadyH.cons (o := _) rfl (fun K hK => ?_) AllReadyH.nil
                  obtain ⟨v16, hv16⟩ : ∃ V, v12.alloc (.cells #[.int .i64 0, .int .i64 0] 29) = V := ⟨_, rfl⟩
                  have hb : Below v12.heap.size v12 v16 := by rw [← hv16]; exact (Below.refl _ _).alloc (Nat.le_refl _) _
                  have HN : Hid (BoxIs v12.heap.size #[.int .i64 0, .int .i64 0] v16) := by show BoxIs _ _ _; rw [← hv16]; exact BoxIs.start _ _ _
                  have HL : Hid (wd.heap.size ≤ v12.heap.size) := hid hS.2.size
                  go_simp
                  refine hK.out _ _ (⟨hS.1.step hb, hS.2.trans (hb.mono hS.2.size)⟩) (fun hS => ?_)
                  clear hK K
                  try simp only [List.setIfInBounds_toArray, List.set_cons_zero, List.set_cons_succ]
                  refine wpAnyH_ready (rs := [17]) (by kernel_rfl) (by simp) ?_
                  refine AllReadyH.cons (o := _) rfl (fun K hK => ?_) AllReadyH.nil
                  have k0 := (HN.out.2 0 (.int .i64 0) rfl).1; have f0 := (HN.out.2 0 (.int .i64 0) rfl).2
                  have k1 := (HN.out.2 1 (.int .i64 0) rfl).1; have f1 := (HN.out.2 1 (.int .i64 0) rfl).2
                  have HP : Hid (BoxIs v12.heap.size #[.int .i64 R.lo, .int .i64 R.hi] ((v16.setCell ⟨v12.heap.size, 0, none⟩ (.int .i64 R.lo)).setCell ⟨v12.heap.size, 1, none⟩ (.int .i64 R.hi))) := hid ((HN.out.put (j := 0) (.int .i64 R.lo)).put (j := 1) (.int .i64 R.hi))
                  have HSW := hid (hS.1.step' ((((Below.refl wd.heap.size v16).setCell (p := ⟨v12.heap.size, 0, none⟩) HL.out (.int .i64 R.lo)).setCell (p := ⟨v12.heap.size, 1, none⟩) HL.out (.int .i64 R.hi)).mono (by have := HD.out.size; exact this)))
                  have HSB := hid (hS.2.trans (((Below.refl wd.heap.size v16).setCell (p := ⟨v12.heap.size, 0, none⟩) HL.out (.int .i64 R.lo)).setCell (p := ⟨v12.heap.size, 1, none⟩) HL.out (.int .i64 R.hi)))
                  clear hS
                  go_simp
                  clear k0 f0 k1 f1
                  generalize ((v16.setCell ⟨v12.heap.size, 0, none⟩ (.int .i64 R.lo)).setCell ⟨v12.heap.size, 1, none⟩ (.int .i64 R.hi)) = V9 at HP HSW HSB ⊢
                  replace HN := HP
                  refine hK.out _ _ (⟨HSW.out, HSB.out⟩) (fun hS => ?_)
                  clear hK K
                  try simp only [List.setIfInBounds_toArray, List.set_cons_zero, List.set_cons_succ]
                  refine wpAnyH_take (i := 18) (v := ?_) rfl (by kernel_rfl) (by kernel_rfl) (by kernel_rfl) (fun _ _ _ h => h) (Or.inl ⟨by rfl, fun V hV => ?_⟩) (by assumption) ?_
                  rotate_left
                  · go_simp
                    try with_reducible rfl
                  try simp only [Act.put, List.getElem_toArray, List.getElem_cons_zero, List.getElem_cons_succ, List.setIfInBounds_toArray, List.set_cons_zero, List.set_cons_succ]
                  refine wpAnyH_done (by kernel_rfl) ?_ _
                  go_wp2
                  go_meet
                  case rel => exact ⟨_, rfl, rfl, HN.out, hS.1, HWD.out.trans (hS.2.mono HWD.out.size)⟩
                refine AllReadyH.cons (o := _) rfl (fun K hK => ?_) AllReadyH.nil
                obtain ⟨v16, hv16⟩ : ∃ V, v1.alloc (.cells #[.int .i64 0, .int .i64 0] 29) = V := ⟨_, rfl⟩
                have hb : Below v1.heap.size v1 v16 := by rw [← hv16]; exact (Below.refl _ _).alloc (Nat.le_refl _) _
                have HN : Hid (BoxIs v1.heap.size #[.int .i64 0, .int .i64 0] v16) := by show BoxIs _ _ _; rw [← hv16]; exact BoxIs.start _ _ _
                have HL : Hid (wd.heap.size ≤ v1.heap.size) := hid hS.2.size
                replace HQ9 := hid (HQ9.out.below hb)
                go_simp
                refine hK.out _ _ (⟨hS.1.step hb, hS.2.trans (hb.mono hS.2.size)⟩) (fun hS => ?_)
                clear hK K
                try simp only [List.setIfInBounds_toArray, List.set_cons_zero, List.set_cons_succ]
                refine wpAnyH_ready (rs := [12]) (by kernel_rfl) (by simp) ?_
                refine AllReadyH.cons (o := _) rfl (fun K hK => ?_) AllReadyH.nil
                go_simp
                (with_reducible refine (sizes_any (flipS s) q9 m9 d9 bx.lo (s.high - 1 - bY.lo) _ HQ9.out).mono ?_)
                rintro e v12 ⟨rfl, hb⟩
                rw [HR2.out, HE4.out]
                replace HN := hid (HN.out.below hb)
                refine hK.out _ _ (⟨hS.1.step hb, hS.2.trans (hb.mono hS.2.size)⟩) (fun hS => ?_)
                clear hK K
                try simp only [List.setIfInBounds_toArray, List.set_cons_zero, List.set_cons_succ]
                refine wpAnyH_take (i := 13) (v := ?_) rfl (by kernel_rfl) (by kernel_rfl) (by kernel_rfl) (fun _ _ _ h => h) (Or.inl ⟨by rfl, fun V hV => ?_⟩) (by assumption) ?_
                rotate_left
                · go_simp
                  try with_reducible rfl
                try simp only [Act.put, List.getElem_toArray, List.getElem_cons_zero, List.getElem_cons_succ, List.setIfInBounds_toArray, List.set_cons_zero, List.set_cons_succ]
                refine wpAnyH_take (i := 14) (v := ?_) rfl (by kernel_rfl) (by kernel_rfl) (by kernel_rfl) (fun _ _ _ h => h) (Or.inl ⟨by rfl, fun V hV => ?_⟩) (by assumption) ?_
                rotate_left
                · go_simp
                  try with_reducible rfl
                try simp only [Act.put, List.getElem_toArray, List.getElem_cons_zero, List.getElem_cons_succ, List.setIfInBounds_toArray, List.set_cons_zero, List.set_cons_succ]
                refine wpAnyH_take (i := 15) (v := ?_) rfl (by kernel_rfl) (by kernel_rfl) (by kernel_rfl) (fun _ _ _ h => h) (Or.inl ⟨by rfl, fun V hV => ?_⟩) (by assumption) ?_
                rotate_left
                · go_simp
                  try with_reducible rfl
                try simp only [Act.put, List.getElem_toArray, List.getElem_cons_zero, List.getElem_cons_succ, List.setIfInBounds_toArray, List.set_cons_zero, List.set_cons_succ]
                refine wpAnyH_ready (rs := [17]) (by kernel_rfl) (by simp) ?_
                refine AllReadyH.cons (o := _) rfl (fun K hK => ?_) AllReadyH.nil
                have k0 := (HN.out.2 0 (.int .i64 0) rfl).1; have f0 := (HN.out.2 0 (.int .i64 0) rfl).2
                have k1 := (HN.out.2 1 (.int .i64 0) rfl).1; have f1 := (HN.out.2 1 (.int .i64 0) rfl).2
                have HP : Hid (BoxIs v1.heap.size #[.int .i64 R.lo, .int .i64 R.hi] ((v12.setCell ⟨v1.heap.size, 0, none⟩ (.int .i64 R.lo)).setCell ⟨v1.heap.size, 1, none⟩ (.int .i64 R.hi))) := hid ((HN.out.put (j := 0) (.int .i64 R.lo)).put (j := 1) (.int .i64 R.hi))
                have HSW := hid (hS.1.step' ((((Below.refl wd.heap.size v12).setCell (p := ⟨v1.heap.size, 0, none⟩) HL.out (.int .i64 R.lo)).setCell (p := ⟨v1.heap.size, 1, none⟩) HL.out (.int .i64 R.hi)).mono (by have := HD.out.size; exact this)))
                have HSB := hid (hS.2.trans (((Below.refl wd.heap.size v12).setCell (p := ⟨v1.heap.size, 0, none⟩) HL.out (.int .i64 R.lo)).setCell (p := ⟨v1.heap.size, 1, none⟩) HL.out (.int .i64 R.hi)))
                clear hS
                go_simp
                clear k0 f0 k1 f1
                generalize ((v12.setCell ⟨v1.heap.size, 0, none⟩ (.int .i64 R.lo)).setCell ⟨v1.heap.size, 1, none⟩ (.int .i64 R.hi)) = V9 at HP HSW HSB ⊢
                replace HN := HP
                refine hK.out _ _ (⟨HSW.out, HSB.out⟩) (fun hS => ?_)
                clear hK K
                try simp only [List.setIfInBounds_toArray, List.set_cons_zero, List.set_cons_succ]
                refine wpAnyH_take (i := 18) (v := ?_) rfl (by kernel_rfl) (by kernel_rfl) (by kernel_rfl) (fun _ _ _ h => h) (Or.inl ⟨by rfl, fun V hV => ?_⟩) (by assumption) ?_
                rotate_left
                · go_simp
                  try with_reducible rfl
                try simp only [Act.put, List.getElem_toArray, List.getElem_cons_zero, List.getElem_cons_succ, List.setIfInBounds_toArray, List.set_cons_zero, List.set_cons_succ]
                refine wpAnyH_done (by kernel_rfl) ?_ _
                go_wp2
                go_meet
                case rel => exact ⟨_, rfl, rfl, HN.out, hS.1, HWD.out.trans (hS.2.mono HWD.out.size)⟩
              refine AllReadyH.cons (o := _) rfl (fun K hK => ?_) AllReadyH.nil
              obtain ⟨v16, hv16⟩ : ∃ V, wd.alloc (.cells #[.int .i64 0, .int .i64 0] 29) = V := ⟨_, rfl⟩
              have hb : Below wd.heap.size wd v16 := by rw [← hv16]; exact (Below.refl _ _).alloc (Nat.le_refl _) _
              have HN : Hid (BoxIs wd.heap.size #[.int .i64 0, .int .i64 0] v16) := by show BoxIs _ _ _; rw [← hv16]; exact BoxIs.start _ _ _
              have HL : Hid (wd.heap.size ≤ wd.heap.size) := hid hS.2.size
              go_simp
              refine hK.out _ _ (⟨hS.1.step hb, hS.2.trans (hb.mono hS.2.size)⟩) (fun hS => ?_)
              clear hK K
              try simp only [List.setIfInBounds_toArray, List.set_cons_zero, List.set_cons_succ]
              refine wpAnyH_ready (rs := [1]) (by kernel_rfl) (by simp) ?_
              refine AllReadyH.cons (o := _) rfl (fun K hK => ?_) AllReadyH.nil
              go_simp
              refine (storm20_any (flipS s) q m d _ (HKX.out.below hS.2) HMX.out).mono ?_
              rintro e v1 ⟨q9, m9, d9, rfl, hc9, hb⟩
              have HQ9 := hid hc9
              clear hc9
              replace HN := hid (HN.out.below hb)
              refine hK.out _ _ (⟨hS.1.step hb, hS.2.trans (hb.mono hS.2.size)⟩) (fun hS => ?_)
              clear hK K
              try simp only [List.setIfInBounds_toArray, List.set_cons_zero, List.set_cons_succ]
              refine wpAnyH_ready (rs := [12]) (by kernel_rfl) (by simp) ?_
              refine AllReadyH.cons (o := _) rfl (fun K hK => ?_) AllReadyH.nil
              go_simp
              (with_reducible refine (sizes_any (flipS s) q9 m9 d9 bx.lo (s.high - 1 - bY.lo) _ HQ9.out).mono ?_)
              rintro e v12 ⟨rfl, hb⟩
              rw [HR2.out, HE4.out]
              replace HN := hid (HN.out.below hb)
              refine hK.out _ _ (⟨hS.1.step hb, hS.2.trans (hb.mono hS.2.size)⟩) (fun hS => ?_)
              clear hK K
              try simp only [List.setIfInBounds_toArray, List.set_cons_zero, List.set_cons_succ]
              refine wpAnyH_take (i := 13) (v := ?_) rfl (by kernel_rfl) (by kernel_rfl) (by kernel_rfl) (fun _ _ _ h => h) (Or.inl ⟨by rfl, fun V hV => ?_⟩) (by assumption) ?_
              rotate_left
              · go_simp
                try with_reducible rfl
              try simp only [Act.put, List.getElem_toArray, List.getElem_cons_zero, List.getElem_cons_succ, List.setIfInBounds_toArray, List.set_cons_zero, List.set_cons_succ]
              refine wpAnyH_take (i := 14) (v := ?_) rfl (by kernel_rfl) (by kernel_rfl) (by kernel_rfl) (fun _ _ _ h => h) (Or.inl ⟨by rfl, fun V hV => ?_⟩) (by assumption) ?_
              rotate_left
              · go_simp
                try with_reducible rfl
              try simp only [Act.put, List.getElem_toArray, List.getElem_cons_zero, List.getElem_cons_succ, List.setIfInBounds_toArray, List.set_cons_zero, List.set_cons_succ]
              refine wpAnyH_take (i := 15) (v := ?_) rfl (by kernel_rfl) (by kernel_rfl) (by kernel_rfl) (fun _ _ _ h => h) (Or.inl ⟨by rfl, fun V hV => ?_⟩) (by assumption) ?_
              rotate_left
              · go_simp
                try with_reducible rfl
              try simp only [Act.put, List.getElem_toArray, List.getElem_cons_zero, List.getElem_cons_succ, List.setIfInBounds_toArray, List.set_cons_zero, List.set_cons_succ]
              refine wpAnyH_ready (rs := [17]) (by kernel_rfl) (by simp) ?_
              refine AllReadyH.cons (o := _) rfl (fun K hK => ?_) AllReadyH.nil
              have k0 := (HN.out.2 0 (.int .i64 0) rfl).1; have f0 := (HN.out.2 0 (.int .i64 0) rfl).2
              have k1 := (HN.out.2 1 (.int .i64 0) rfl).1; have f1 := (HN.out.2 1 (.int .i64 0) rfl).2
              have HP : Hid (BoxIs wd.heap.size #[.int .i64 R.lo, .int .i64 R.hi] ((v12.setCell ⟨wd.heap.size, 0, none⟩ (.int .i64 R.lo)).setCell ⟨wd.heap.size, 1, none⟩ (.int .i64 R.hi))) := hid ((HN.out.put (j := 0) (.int .i64 R.lo)).put (j := 1) (.int .i64 R.hi))
              have HSW := hid (hS.1.step' ((((Below.refl wd.heap.size v12).setCell (p := ⟨wd.heap.size, 0, none⟩) HL.out (.int .i64 R.lo)).setCell (p := ⟨wd.heap.size, 1, none⟩) HL.out (.int .i64 R.hi)).mono (by have := HD.out.size; exact this)))
              have HSB := hid (hS.2.trans (((Below.refl wd.heap.size v12).setCell (p := ⟨wd.heap.size, 0, none⟩) HL.out (.int .i64 R.lo)).setCell (p := ⟨wd.heap.size, 1, none⟩) HL.out (.int .i64 R.hi)))
              clear hS
              go_simp
              clear k0 f0 k1 f1
              generalize ((v12.setCell ⟨wd.heap.size, 0, none⟩ (.int .i64 R.lo)).setCell ⟨wd.heap.size, 1, none⟩ (.int .i64 R.hi)) = V9 at HP HSW HSB ⊢
              replace HN := HP
              refine hK.out _ _ (⟨HSW.out, HSB.out⟩) (fun hS => ?_)
              clear hK K
              try simp only [List.setIfInBounds_toArray, List.set_cons_zero, List.set_cons_succ]
              refine wpAnyH_take (i := 18) (v := ?_) rfl (by kernel_rfl) (by kernel_rfl) (by kernel_rfl) (fun _ _ _ h => h) (Or.inl ⟨by rfl, fun V hV => ?_⟩) (by assumption) ?_
              rotate_left
              · go_simp
                try with_reducible rfl
              try simp only [Act.put, List.getElem_toArray, List.getElem_cons_zero, List.getElem_cons_succ, List.setIfInBounds_toArray, List.set_cons_zero, List.set_cons_succ]
              refine wpAnyH_done (by kernel_rfl) ?_ _
              go_wp2
              go_meet
              case rel => exact ⟨_, rfl, rfl, HN.out, hS.1, HWD.out.trans (hS.2.mono HWD.out.size)⟩
            case rest =>
              obtain ⟨btHG, rfl, rfl, hn, hw, hbw⟩ := hcut
              have HG := hid hn; have H27 := hid hw
              replace HX := hid (HX.out.below hbw)
              replace HKX := hid (HKX.out.below hbw)
              replace HR := hid (HR.out.below hbw)
              replace HQ := hid (HQ.out.below hbw)
              replace HA := hid (HA.out.below hbw)
              clear hn hw hbw
              generalize wc = w27 at HX HKX HR HQ HA HG H27 ⊢
              have HF0 := hid (fault_iff.2 HOK.out); have HFX := hid (fault_iff.2 HOX.out)
              have HLV := hid (leaveR_law HOK.out)
              have HLX2 : Hid (shortL (leaveF (flipS s)) (flipS s).cards.length = some (leaveR s)) := hid (by rw [flip_leave HOK.out]; exact leaveR_law HOK.out)
              have HLL : Hid ((leaveR s).length ≤ 1000) := hid (Nat.le_trans (bestL_len _ _) (by omega))
              have e0 := (StoAt.of H27.out.cell).c0; have e1 := (StoAt.of H27.out.cell).c1; have e2 := (StoAt.of H27.out.cell).c2; have e3 := (StoAt.of H27.out.cell).c3; have e4 := (StoAt.of H27.out.cell).c4; have e5 := (StoAt.of H27.out.cell).c5; have e6 := (StoAt.of H27.out.cell).c6; have e7 := (StoAt.of H27.out.cell).c7; have e8 := (StoAt.of H27.out.cell).c8; have e9 := (StoAt.of H27.out.cell).c9; have e10 := (StoAt.of H27.out.cell).c10; have e11 := (StoAt.of H27.out.cell).c11
              go_wp2_with fail
              refine (storm20_any s p n c w27 (HC.out.below H27.out.below) HN9.out).mono ?_
              rintro e w28 ⟨q5, m5, d5, rfl, hc, hb⟩
              have H28 := hid (H27.out.step hb)
              replace HX := hid (HX.out.below hb)
              replace HKX := hid (HKX.out.below hb)
              replace HR := hid (HR.out.below hb)
              replace HQ := hid (HQ.out.below hb)
              replace HA := hid (HA.out.below hb)
              replace HG := hid (HG.out.below hb)
              have HK5 := hid hc
              clear e0 e1 e2 e3 e4 e5 e6 e7 e8 e9 e10 e11 hb hc
              go_wp2_with fail
              refine (leave_any s q5 m5 d5 _ HK5.out).mono ?_
              rintro e w29 ⟨ql, kl, dl, rfl, _, hx, hb⟩
              have H29 := hid (H28.out.step hb)
              replace HX := hid (HX.out.below hb)
              replace HKX := hid (HKX.out.below hb)
              replace HR := hid (HR.out.below hb)
              replace HQ := hid (HQ.out.below hb)
              replace HA := hid (HA.out.below hb)
              replace HG := hid (HG.out.below hb)
              replace HK5 := hid (HK5.out.below hb)
              have hl := hx HF0.out _ HLV.out
              have HL1 := hid hl
              have HKL : Hid (kl ≤ 1000) := hid (by rw [hl.1]; exact HLL.out)
              rw [HF0.out]
              clear hb hx hl
              have e0 := (HX.out.2 0 (.int .i64 (flipS s).wide) rfl).1; have e1 := (HX.out.2 1 (.int .i64 (flipS s).high) rfl).1; have e2 := (HX.out.2 2 (.int .i64 (flipS s).fall) rfl).1; have e3 := (HX.out.2 3 (.int .i64 (flipS s).a.lo) rfl).1; have e4 := (HX.out.2 4 (.int .i64 (flipS s).a.hi) rfl).1; have e5 := (HX.out.2 5 (.int .i64 (flipS s).b.lo) rfl).1; have e6 := (HX.out.2 6 (.int .i64 (flipS s).b.hi) rfl).1; have e7 := (HX.out.2 7 (.int .i64 (flipS s).half.lo) rfl).1; have e8 := (HX.out.2 8 (.int .i64 (flipS s).half.hi) rfl).1; have e9 := (HX.out.2 9 (.int .i64 (flipS s).peak.lo) rfl).1; have e10 := (HX.out.2 10 (.int .i64 (flipS s).peak.hi) rfl).1; have e11 := (HX.out.2 11 (.slice q m d) rfl).1
              go_wp2_with fail
              refine (storm20_any (flipS s) q m d _ HKX.out HMX.out).mono ?_
              rintro e w30 ⟨q6, m6, d6, rfl, hc, hb⟩
              have H30 := hid (H29.out.step hb)
              replace HX := hid (HX.out.below hb)
              replace HKX := hid (HKX.out.below hb)
              replace HR := hid (HR.out.below hb)
              replace HQ := hid (HQ.out.below hb)
              replace HA := hid (HA.out.below hb)
              replace HG := hid (HG.out.below hb)
              replace HL1 := hid (HL1.out.below hb)
              have HK6 := hid hc
              clear hb hc e0 e1 e2 e3 e4 e5 e6 e7 e8 e9 e10 e11
              go_wp2_with fail
              refine (leave_any (flipS s) q6 m6 d6 _ HK6.out).mono ?_
              rintro e w31 ⟨qm, km, dm, rfl, _, hx, hb⟩
              have H31 := hid (H30.out.step hb)
              replace HX := hid (HX.out.below hb)
              replace HKX := hid (HKX.out.below hb)
              replace HR := hid (HR.out.below hb)
              replace HQ := hid (HQ.out.below hb)
              replace HA := hid (HA.out.below hb)
              replace HG := hid (HG.out.below hb)
              replace HL1 := hid (HL1.out.below hb)
              replace HK6 := hid (HK6.out.below hb)
              have hl := hx HFX.out _ HLX2.out
              have HL2 := hid hl
              have HKM : Hid (km ≤ 1000) := hid (by rw [hl.1]; exact HLL.out)
              rw [HFX.out]
              clear hb hx hl
              have x0 := (HA.out.2 0 (.int .i64 R.lo) rfl).1; have x1 := (HA.out.2 1 (.int .i64 R.hi) rfl).1
              have y0 := (HG.out.2 0 (.int .i64 R.lo) rfl).1; have y1 := (HG.out.2 1 (.int .i64 R.hi) rfl).1
              rcases HE.out with hE | hE
              all_goals rw [hE]
              all_goals clear hE
              all_goals go_wp2_with fail
              all_goals refine (ints_any ql kl dl (leaveR s) qm km dm (leaveR s) _ HL1.out HL2.out (by have := HKL.out; omega) (by have := HKM.out; omega)).mono ?_
              all_goals rintro e w32 ⟨rfl, hb⟩
              all_goals rw [decide_eq_true (rfl : leaveR s = leaveR s)]
              all_goals have H32 := hid (H31.out.step hb)
              all_goals clear hb
              all_goals go_wp2_with fail
              all_goals refine (awake_any _).mono ?_
              all_goals rintro e w99 ⟨rfl, hb⟩
              all_goals go_wp2_with fail
              all_goals go_ret
              all_goals exact ⟨rfl, H32.out.below.trans (hb.mono H32.out.below.size)⟩
end Go.Proofs.Ytfnefkenheglhaa
