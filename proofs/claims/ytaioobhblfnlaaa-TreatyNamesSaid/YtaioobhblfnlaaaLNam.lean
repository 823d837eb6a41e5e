/- TreatyNames: the document's examples, and errors. No condition. -/
import Derived.Test.YtaioobhblfnlaaaD6
namespace Go.Proofs.Ytaioobhblfnlaaa
open Go.RowKit


theorem nm_play : playE (threeP 200 []) [120, 300] = 0 ∧ playL (threeP 200 []) [120, 300] = [105, 100, 50] ∧ playN (threeP 200 []) [120, 300] = 215 := by
  have h : playE (threeP 200 []) [120, 300] = 0 := by rw [playE, if_pos (ex_f 200 (by decide) (by decide)), if_pos (by decide +kernel)]
  refine ⟨h, ?_, ?_⟩
  · rw [playL, if_pos h]; decide +kernel
  · rw [playN, if_pos h]; decide +kernel
theorem nm_kept : keptE (threeP 200 []) [0] = 0 ∧ (keptV (threeP 200 []) [0]).lo = 300 ∧ (keptV (threeP 200 []) [0]).hi = 315 := by
  have h : keptE (threeP 200 []) [0] = 0 := by rw [keptE, if_pos (ex_f 200 (by decide) (by decide)), if_pos (by decide +kernel)]
  refine ⟨h, ?_⟩
  rw [keptV, if_pos h]; decide +kernel
theorem nm_ch {m : Int} {X : List Int} {pr : Int} (h0 : 0 ≤ m) (h1 : m ≤ 10000) (hc : cheapP (threeP m []) = some X) (hp : priceL treT X = pr) : chV (threeP m []) = X ∧ chE (threeP m []) = 0 ∧ prO (threeP m []).ts (chO (threeP m [])) = pr := by
  have h := ex_f m h0 h1
  have h2 : chO (threeP m []) = some X := by rw [chO, if_pos h, hc]
  refine ⟨?_, ?_, ?_⟩
  · rw [chV, h2]; rfl
  · rw [chE, if_pos h, hc]; rfl
  · rw [h2]; exact hp
theorem nm_ch320 : chV (threeP 320 []) = [1] ∧ chE (threeP 320 []) = 0 ∧ prO (threeP 320 []).ts (chO (threeP 320 [])) = 30 := nm_ch (by decide) (by decide) (by decide +kernel) (by decide +kernel)
theorem nm_ch315 : chV (threeP 315 []) = [0] ∧ chE (threeP 315 []) = 0 ∧ prO (threeP 315 []).ts (chO (threeP 315 [])) = 50 := nm_ch (by decide) (by decide) (by decide +kernel) (by decide +kernel)
theorem nm_ch200 : chE (threeP 200 []) = 10 := by
  have hc : cheapP (threeP 200 []) = none := by decide +kernel
  rw [chE, if_pos (ex_f 200 (by decide) (by decide)), hc]; rfl
theorem nm_leave : leaveV (threeP 200 []) = [] := by
  rw [leaveV, if_pos (ex_f 200 (by decide) (by decide))]; decide +kernel
theorem nm_prove : proveB (threeP 315 []) [0] 49 = false ∧ proveB (threeP 314 []) [0] 50 = false ∧ proveB (threeP 315 []) [0, 2] 99 = false := by
  refine ⟨?_, ?_, ?_⟩ <;> (rw [proveB, Bool.and_eq_false_iff]; right; decide +kernel)
theorem nm_pl2 : playE (threeP 200 []) [99, 300] = 2 ∧ playE (threeP 200 []) [100] = 2 := by
  constructor <;> rw [playE, if_pos (ex_f 200 (by decide) (by decide)), if_neg (by decide +kernel)]
theorem nm_kp2 : keptE (threeP 200 []) [2] = 2 ∧ keptE (threeP 200 []) [1, 0] = 2 := by
  constructor <;> rw [keptE, if_pos (ex_f 200 (by decide) (by decide)), if_neg (by decide +kernel)]
theorem nm_err : errP (threeP 200 twoR) = 11 := by
  have h : possO (threeP 200 twoR) allT [] = false := by decide +kernel
  rw [errP_ok ex_fr, h]; rfl
theorem nm_first : firstE (threeP 200 []) = 7 := by
  have h : firstP (threeP 200 []) = -1 := by decide +kernel
  rw [firstE, if_pos (ex_f 200 (by decide) (by decide)), if_pos h]
def nmT (a : Tre) (b : Tre) (c : Tre) : Prg := ⟨lossT, 200, [a, b, c], []⟩
theorem fault_a {p : Prg} (h : ¬ (4 < p.losses.length ∨ 5 < p.ts.length ∨ 5 < p.reps.length)) (h2 : argsB p = false) : faultP p = 1 := fault_arg h h2
theorem nm_f0 : faultP (⟨[⟨100, 120⟩, ⟨300, 300⟩], 200, [⟨2, 25, 0, 0, 0, 50, (-1)⟩, ⟨1, 0, 50, 100, 0, 30, (-1)⟩, ⟨1, 0, 20, 40, 1, 5, 0⟩], []⟩ : Prg) = 1 := fault_a (by decide) (by decide)
theorem nm_f1 : faultP (⟨[⟨100, 120⟩, ⟨300, 300⟩], 200, [⟨0, 0, 0, 0, 0, 50, (-1)⟩, ⟨1, 0, 50, 100, 0, 30, (-1)⟩, ⟨1, 0, 20, 40, 1, 5, 0⟩], []⟩ : Prg) = 1 := fault_a (by decide) (by decide)
theorem nm_f2 : faultP (⟨[⟨100, 120⟩, ⟨300, 300⟩], 200, [⟨0, 25, 0, 0, 0, 50, (-1)⟩, ⟨1, 0, 50, 0, 0, 30, (-1)⟩, ⟨1, 0, 20, 40, 1, 5, 0⟩], []⟩ : Prg) = 1 := fault_a (by decide) (by decide)
theorem nm_f3 : faultP (⟨[⟨100, 120⟩, ⟨300, 300⟩], 200, [⟨0, 25, 0, 0, 1, 50, (-1)⟩, ⟨1, 0, 50, 100, 0, 30, (-1)⟩, ⟨1, 0, 20, 40, 1, 5, 0⟩], []⟩ : Prg) = 1 := fault_a (by decide) (by decide)
theorem nm_f4 : faultP (⟨[⟨100, 120⟩, ⟨300, 300⟩], 200, [⟨0, 25, 0, 0, 0, 50, (-1)⟩, ⟨1, 0, 50, 100, 0, 30, (-1)⟩, ⟨1, 0, 20, 40, 1, 5, 2⟩], []⟩ : Prg) = 1 := fault_a (by decide) (by decide)
theorem nm_f5 : faultP (⟨[⟨100, 120⟩, ⟨300, 300⟩], 200, [⟨0, 25, 0, 0, 0, 50, (-1)⟩, ⟨1, 0, 50, 100, 0, 30, (-1)⟩, ⟨1, 0, 20, 40, 1, 5, 0⟩], [⟨3, ⟨103, 110⟩⟩, ⟨2, ⟨45, 46⟩⟩]⟩ : Prg) = 1 := fault_a (by decide) (by decide)
theorem nm_f6 : faultP (⟨[⟨100, 1001⟩, ⟨300, 300⟩], 200, [⟨0, 25, 0, 0, 0, 50, (-1)⟩, ⟨1, 0, 50, 100, 0, 30, (-1)⟩, ⟨1, 0, 20, 40, 1, 5, 0⟩], []⟩ : Prg) = 1 := fault_a (by decide) (by decide)
theorem nm_f7 : faultP (⟨[⟨0, 0⟩, ⟨0, 0⟩, ⟨0, 0⟩, ⟨0, 0⟩, ⟨0, 0⟩], 200, [⟨0, 25, 0, 0, 0, 50, (-1)⟩, ⟨1, 0, 50, 100, 0, 30, (-1)⟩, ⟨1, 0, 20, 40, 1, 5, 0⟩], []⟩ : Prg) = 3 := fault_big (.inl (by decide))
theorem nm_f8 : faultP (⟨[⟨0, 99⟩, ⟨0, 15⟩], 200, [⟨0, 25, 0, 0, 0, 50, (-1)⟩, ⟨1, 0, 50, 100, 0, 30, (-1)⟩, ⟨1, 0, 20, 40, 1, 5, 0⟩], []⟩ : Prg) = 3 := by rw [fault_many (by unfold bigP; decide) (by decide), if_pos (by decide)]
theorem nm_f9 : faultP (⟨[], 0, [], []⟩ : Prg) = 0 := fault_iff.2 (ok_of (by decide) (by decide))
theorem BoxIs.more {b : Nat} {vs : Array Value} {W : World} (h : BoxIs b vs W) (o : Obj) : BoxIs b vs (W.alloc o) := h.below ((Below.refl _ _).alloc (Nat.le_refl _) o)
theorem eight_boxes {w W : World} {Z : Array Value} {T : TypeId} (h : ((((((((w.alloc (.cells Z T)).alloc (.cells Z T)).alloc (.cells Z T)).alloc (.cells Z T)).alloc (.cells Z T)).alloc (.cells Z T)).alloc (.cells Z T)).alloc (.cells Z T)) = W) :
    BoxIs w.heap.size Z W ∧ BoxIs (w.heap.size + 1) Z W ∧ BoxIs (w.heap.size + 2) Z W ∧ BoxIs (w.heap.size + 3) Z W ∧ BoxIs (w.heap.size + 4) Z W ∧ BoxIs (w.heap.size + 5) Z W ∧ BoxIs (w.heap.size + 6) Z W ∧ BoxIs (w.heap.size + 7) Z W ∧ Below w.heap.size w W := by
  have z : ∀ W : World, (W.alloc (.cells Z T)).heap.size = W.heap.size + 1 := fun W => World.size_alloc _ _
  have s : ∀ (W : World) (n : Nat), W.heap.size = n → BoxIs n Z (W.alloc (.cells Z T)) := fun W n hn => by subst hn; exact BoxIs.start W Z T
  subst h
  refine ⟨(((((((s w _ rfl).more _).more _).more _).more _).more _).more _).more _, ((((((s _ _ (by simp only [z])).more _).more _).more _).more _).more _).more _, (((((s _ _ (by simp only [z])).more _).more _).more _).more _).more _, ((((s _ _ (by simp only [z])).more _).more _).more _).more _, (((s _ _ (by simp only [z])).more _).more _).more _, ((s _ _ (by simp only [z])).more _).more _, (s _ _ (by simp only [z])).more _, s _ _ (by simp only [z]), ?_⟩
  exact (((((((((Below.refl _ _).alloc (Nat.le_refl _) _).alloc (by simp only [z]; omega) _).alloc (by simp only [z]; omega) _).alloc (by simp only [z]; omega) _).alloc (by simp only [z]; omega) _).alloc (by simp only [z]; omega) _).alloc (by simp only [z]; omega) _).alloc (by simp only [z]; omega) _)
theorem make5 (W : World) : (Instr.makeSlice 33 (.int .i64 5) (.int .i64 5)).run Try.prog W = .ok (.slice (some ⟨W.heap.size, 0, none⟩) 5 5) (W.alloc (.cells #[.int .i64 0, .int .i64 0, .int .i64 0, .int .i64 0, .int .i64 0, .int .i64 0, .int .i64 0, .int .i64 0, .int .i64 0, .int .i64 0] 51)) := by
  obtain ⟨i, hi, hzz⟩ := Option.map_eq_some_iff.1 Try.info51
  simp only [Prod.mk.injEq] at hzz
  obtain ⟨hz, hs, hb⟩ := hzz
  have h := run_make (P := Try.prog) W 33 51 i _ Try.und33 hi hz .i64 .i64 5 5 (by omega) (by omega) (by rw [hb]; omega) (by omega)
  rw [hs] at h
  have e : madeCells (Value.agg #[.int .i64 0, .int .i64 0]).cells (Int.toNat 5 * 2) = #[.int .i64 0, .int .i64 0, .int .i64 0, .int .i64 0, .int .i64 0, .int .i64 0, .int .i64 0, .int .i64 0, .int .i64 0, .int .i64 0] := by kernel_rfl
  rw [e] at h
  exact h

set_option maxRecDepth 40000 in
set_option maxHeartbeats 16000000 in
theorem treatyNames_any (w : World) : Calls Try.prog 8 #[] w fun e w' => e = .returned (.bool true) ∧ Below w.heap.size w w' := by
  have HW : Hid (Below w.heap.size w w) := hid (Below.refl _ _)
  go_enter Try.func8, Try.ntmps8
  go_wp2_with fail
  refine (three_any none 0 0 _).mono ?_
  rintro e w1 ⟨b1, b2, rfl, h1, h2, _, hb⟩
  have HW := hid (HW.out.trans (hb.mono HW.out.size))
  have HP : Hid (PrgAt w1 (threeP 200 []) (some ⟨b1, 0, none⟩) 2 (some ⟨b2, 0, none⟩) 3 none 0) := hid (three_at h1 h2 (rows_none _))
  clear h1 h2 hb
  have hba : Below w1.heap.size w1 (w1.alloc (.cells #[.int .i64 120, .int .i64 300] 3)) := (Below.refl _ _).alloc (Nat.le_refl _) _
  have HP := hid (HP.out.below hba)
  have HLI : Hid (IntsAt (w1.alloc (.cells #[.int .i64 120, .int .i64 300] 3)) (some ⟨w1.heap.size, 0, none⟩) 2 [120, 300]) := hid (lit_ints w1 [120, 300])
  go_wp2_with fail
  refine (play_any (threeP 200 []) (some ⟨b1, 0, none⟩) 2 2 (some ⟨b2, 0, none⟩) 3 3 none 0 0 (some ⟨w1.heap.size, 0, none⟩) 2 2 [120, 300] _ HP.out HLI.out (by decide)).mono ?_
  rintro e w2 ⟨v, rfl, hown, hb⟩
  replace hb := hba.trans (hb.mono (by simp))
  have HW := hid (HW.out.trans (hb.mono HW.out.size))
  obtain ⟨q1, d1, rfl, hi⟩ := hown.slice
  rw [nm_play.2.1] at hi
  have HI1 : Hid (IntsAt w2 q1 3 [105, 100, 50]) := hid hi
  rw [nm_play.1, nm_play.2.1, nm_play.2.2]
  rw [show ([105, 100, 50] : List Int).length = 3 from rfl]
  clear hi hown
  clear hb hba HP HLI
  obtain ⟨w1, hw1⟩ : ∃ V, V = w2 := ⟨_, rfl⟩
  subst hw1
  go_wp2_with fail
  refine (three_any none 0 0 _).mono ?_
  rintro e w1 ⟨b1, b2, rfl, h1, h2, _, hb⟩
  have HW := hid (HW.out.trans (hb.mono HW.out.size))
  replace HI1 := hid (HI1.out.below hb)
  have HP : Hid (PrgAt w1 (threeP 200 []) (some ⟨b1, 0, none⟩) 2 (some ⟨b2, 0, none⟩) 3 none 0) := hid (three_at h1 h2 (rows_none _))
  clear h1 h2 hb
  have hba : Below w1.heap.size w1 (w1.alloc (.cells #[.int .i64 0] 3)) := (Below.refl _ _).alloc (Nat.le_refl _) _
  have HP := hid (HP.out.below hba)
  have HLI : Hid (IntsAt (w1.alloc (.cells #[.int .i64 0] 3)) (some ⟨w1.heap.size, 0, none⟩) 1 [0]) := hid (lit_ints w1 [0])
  go_wp2_with fail
  refine (kept_any (threeP 200 []) (some ⟨b1, 0, none⟩) 2 2 (some ⟨b2, 0, none⟩) 3 3 none 0 0 (some ⟨w1.heap.size, 0, none⟩) 1 1 [0] _ HP.out HLI.out (by decide)).mono ?_
  rintro e w2 ⟨rfl, hb⟩
  replace hb := hba.trans (hb.mono (by simp))
  have HW := hid (HW.out.trans (hb.mono HW.out.size))
  replace HI1 := hid (HI1.out.below hb)
  rw [nm_kept.1, nm_kept.2.1, nm_kept.2.2]
  clear hb hba HP HLI
  obtain ⟨w1, hw1⟩ : ∃ V, V = w2 := ⟨_, rfl⟩
  subst hw1
  go_upto_region 3 with fail
  obtain ⟨W2, hW2⟩ : ∃ V, w1.alloc (.cells #[.int .i64 300, .int .i64 315] 51) = V := ⟨_, rfl⟩
  rw [hW2]
  have hb : Below w1.heap.size w1 W2 := by rw [← hW2]; exact (Below.refl _ _).alloc (Nat.le_refl _) _
  have HW := hid (HW.out.trans (hb.mono HW.out.size))
  replace HI1 := hid (HI1.out.below hb)
  have HX : Hid (BoxIs w1.heap.size #[.int .i64 300, .int .i64 315] W2) := hid (by rw [← hW2]; exact BoxIs.start _ _ _)
  clear hb hW2
  obtain ⟨w1, hw1⟩ : ∃ V, V = W2 := ⟨_, rfl⟩
  subst hw1
  go_wp2_with fail
  refine (reserved_any 320 _).mono ?_
  rintro e w1 ⟨b1, b2, rfl, h1, h2, _, hb⟩
  have HW := hid (HW.out.trans (hb.mono HW.out.size))
  replace HI1 := hid (HI1.out.below hb)
  replace HX := hid (HX.out.below hb)
  have HP : Hid (PrgAt w1 (threeP 320 []) (some ⟨b1, 0, none⟩) 2 (some ⟨b2, 0, none⟩) 3 none 0) := hid (three_at h1 h2 (rows_none _))
  clear h1 h2 hb
  go_wp2_with fail
  refine (cheapest_any (threeP 320 []) (some ⟨b1, 0, none⟩) 2 2 (some ⟨b2, 0, none⟩) 3 3 none 0 0 _ HP.out).mono ?_
  rintro e w1 ⟨q3, k3, d3, rfl, hi, hb⟩
  have HW := hid (HW.out.trans (hb.mono HW.out.size))
  replace HI1 := hid (HI1.out.below hb)
  replace HX := hid (HX.out.below hb)
  rw [nm_ch320.1] at hi
  obtain rfl : k3 = 1 := hi.1
  have HI3 := hid hi
  rw [nm_ch320.2.1, nm_ch320.2.2]
  clear hi hb HP
  go_wp2_with fail
  refine (reserved_any 315 _).mono ?_
  rintro e w1 ⟨b1, b2, rfl, h1, h2, _, hb⟩
  have HW := hid (HW.out.trans (hb.mono HW.out.size))
  replace HI1 := hid (HI1.out.below hb)
  replace HX := hid (HX.out.below hb)
  replace HI3 := hid (HI3.out.below hb)
  have HP : Hid (PrgAt w1 (threeP 315 []) (some ⟨b1, 0, none⟩) 2 (some ⟨b2, 0, none⟩) 3 none 0) := hid (three_at h1 h2 (rows_none _))
  clear h1 h2 hb
  go_wp2_with fail
  refine (cheapest_any (threeP 315 []) (some ⟨b1, 0, none⟩) 2 2 (some ⟨b2, 0, none⟩) 3 3 none 0 0 _ HP.out).mono ?_
  rintro e w1 ⟨q4, k4, d4, rfl, hi, hb⟩
  have HW := hid (HW.out.trans (hb.mono HW.out.size))
  replace HI1 := hid (HI1.out.below hb)
  replace HX := hid (HX.out.below hb)
  replace HI3 := hid (HI3.out.below hb)
  rw [nm_ch315.1] at hi
  obtain rfl : k4 = 1 := hi.1
  have HI4 := hid hi
  rw [nm_ch315.2.1, nm_ch315.2.2]
  clear hi hb HP
  go_wp2_with fail
  refine (three_any none 0 0 _).mono ?_
  rintro e w1 ⟨b1, b2, rfl, h1, h2, _, hb⟩
  have HW := hid (HW.out.trans (hb.mono HW.out.size))
  replace HI1 := hid (HI1.out.below hb)
  replace HX := hid (HX.out.below hb)
  replace HI3 := hid (HI3.out.below hb)
  replace HI4 := hid (HI4.out.below hb)
  have HP : Hid (PrgAt w1 (threeP 200 []) (some ⟨b1, 0, none⟩) 2 (some ⟨b2, 0, none⟩) 3 none 0) := hid (three_at h1 h2 (rows_none _))
  clear h1 h2 hb
  go_wp2_with fail
  refine (leave_any (threeP 200 []) (some ⟨b1, 0, none⟩) 2 2 (some ⟨b2, 0, none⟩) 3 3 none 0 0 _ HP.out).mono ?_
  rintro e w1 ⟨q5, k5, d5, rfl, hi, hb⟩
  have HW := hid (HW.out.trans (hb.mono HW.out.size))
  replace HI1 := hid (HI1.out.below hb)
  replace HX := hid (HX.out.below hb)
  replace HI3 := hid (HI3.out.below hb)
  replace HI4 := hid (HI4.out.below hb)
  rw [nm_leave] at hi
  obtain rfl : k5 = 0 := hi.1
  rw [ex_f 200 (by decide) (by decide)]
  clear hi hb HP
  go_upto_region 6 with fail
  go_cut [129] from 27 (fun c wr => c = .bool false ∧ Below w.heap.size w wr)
  case first =>
    refine wp_region_held_drew (S := fun V => Below w1.heap.size w1 V) (by kernel_rfl) ((Below.refl _ _).drew) (fun hS => ?_)
    simp only [List.size_toArray, List.append_eq, List.length_cons, List.length_nil, Nat.reduceAdd, Array.replicate_succ, Array.replicate_zero, List.push_toArray, List.nil_append, List.cons_append]
    refine tkH (i := 0) (v := ?_) (fun V hV => ?_) ?_
    rotate_left
    · go_simp
      try with_reducible rfl
    try simp only [Act.put, List.getElem_toArray, List.getElem_cons_zero, List.setIfInBounds_toArray, List.set_cons_zero, List.set_cons_succ]
    refine tkH (i := 1) (v := ?_) (fun V hV => ?_) ?_
    rotate_left
    · go_simp
      try with_reducible rfl
    try simp only [Act.put, List.getElem_toArray, List.getElem_cons_zero, List.getElem_cons_succ, List.setIfInBounds_toArray, List.set_cons_zero, List.set_cons_succ]
    refine tkH (i := 2) (v := ?_) (fun V hV => ?_) ?_
    rotate_left
    · go_simp
      try with_reducible rfl
    try simp only [Act.put, List.getElem_toArray, List.getElem_cons_zero, List.getElem_cons_succ, List.setIfInBounds_toArray, List.set_cons_zero, List.set_cons_succ]
    refine tkH (i := 3) (v := ?_) (fun V hV => ?_) ?_
    rotate_left
    · go_simp
      try with_reducible rfl
    try simp only [Act.put, List.getElem_toArray, List.getElem_cons_zero, List.getElem_cons_succ, List.setIfInBounds_toArray, List.set_cons_zero, List.set_cons_succ]
    refine wpAnyH_ready (rs := [4]) (by kernel_rfl) (by simp) ?_
    refine AllReadyH.cons (o := _) rfl (fun K hK => ?_) AllReadyH.nil
    obtain ⟨v4, hv4⟩ : ∃ V, w1.drew.alloc (.cells #[.int .i64 105, .int .i64 100, .int .i64 50] 3) = V := ⟨_, rfl⟩
    have HL4 : Hid (IntsAt v4 (some ⟨w1.heap.size, 0, none⟩) 3 [105, 100, 50]) := hid (by rw [← hv4]; exact lit_ints w1.drew [105, 100, 50])
    have hb : Below w1.drew.heap.size w1.drew v4 := by rw [← hv4]; exact (Below.refl _ _).alloc (Nat.le_refl _) _
    have hS2 := hS.trans (hb.mono hS.size)
    go_simp
    clear hv4
    refine hK.out _ _ (hS2) (fun hS => ?_)
    clear hK K
    try simp only [List.setIfInBounds_toArray, List.set_cons_zero, List.set_cons_succ]
    refine wpAnyH_ready (rs := [5]) (by kernel_rfl) (by simp) ?_
    refine AllReadyH.cons (o := _) rfl (fun K hK => ?_) AllReadyH.nil
    go_simp
    (with_reducible refine (ints_any _ _ _ [105, 100, 50] _ _ _ [105, 100, 50] _ (HI1.out.below hS) HL4.out (by decide) (by decide)).mono ?_)
    rintro e v5 ⟨rfl, hb⟩
    rw [show decide (([105, 100, 50] : List Int) = [105, 100, 50]) = true from by decide]
    refine hK.out _ _ (hS.trans (hb.mono hS.size)) (fun hS => ?_)
    clear hK K
    try simp only [List.setIfInBounds_toArray, List.set_cons_zero, List.set_cons_succ]
    refine tkH (i := 6) (v := ?_) (fun V hV => ?_) ?_
    rotate_left
    · go_simp
      try with_reducible rfl
    try simp only [Act.put, List.getElem_toArray, List.getElem_cons_zero, List.getElem_cons_succ, List.setIfInBounds_toArray, List.set_cons_zero, List.set_cons_succ]
    refine tkH (i := 7) (v := ?_) (fun V hV => ?_) ?_
    rotate_left
    · go_simp
      try with_reducible rfl
    try simp only [Act.put, List.getElem_toArray, List.getElem_cons_zero, List.getElem_cons_succ, List.setIfInBounds_toArray, List.set_cons_zero, List.set_cons_succ]
    refine tkH (i := 8) (v := ?_) (fun V hV => ?_) ?_
    rotate_left
    · go_simp
      try with_reducible rfl
    try simp only [Act.put, List.getElem_toArray, List.getElem_cons_zero, List.getElem_cons_succ, List.setIfInBounds_toArray, List.set_cons_zero, List.set_cons_succ]
    refine tkH (i := 9) (v := ?_) (fun V hV => ?_) ?_
    rotate_left
    · go_simp
      try with_reducible rfl
    try simp only [Act.put, List.getElem_toArray, List.getElem_cons_zero, List.getElem_cons_succ, List.setIfInBounds_toArray, List.set_cons_zero, List.set_cons_succ]
    refine tkH (i := 10) (v := ?_) (fun V hV => ?_) ?_
    rotate_left
    · go_simp
      try with_reducible rfl
    try simp only [Act.put, List.getElem_toArray, List.getElem_cons_zero, List.getElem_cons_succ, List.setIfInBounds_toArray, List.set_cons_zero, List.set_cons_succ]
    refine tkH (i := 11) (v := ?_) (fun V hV => ?_) ?_
    rotate_left
    · go_simp
      try with_reducible rfl
    try simp only [Act.put, List.getElem_toArray, List.getElem_cons_zero, List.getElem_cons_succ, List.setIfInBounds_toArray, List.set_cons_zero, List.set_cons_succ]
    refine tkH (i := 12) (v := ?_) (fun V hV => ?_) ?_
    rotate_left
    · go_simp
      try with_reducible rfl
    try simp only [Act.put, List.getElem_toArray, List.getElem_cons_zero, List.getElem_cons_succ, List.setIfInBounds_toArray, List.set_cons_zero, List.set_cons_succ]
    refine tkH (i := 13) (v := ?_) (fun V hV => ?_) ?_
    rotate_left
    · go_simp
      try with_reducible rfl
    try simp only [Act.put, List.getElem_toArray, List.getElem_cons_zero, List.getElem_cons_succ, List.setIfInBounds_toArray, List.set_cons_zero, List.set_cons_succ]
    refine tkH (i := 14) (v := ?_) (fun V hV => ?_) ?_
    rotate_left
    · go_simp
      try with_reducible rfl
    try simp only [Act.put, List.getElem_toArray, List.getElem_cons_zero, List.getElem_cons_succ, List.setIfInBounds_toArray, List.set_cons_zero, List.set_cons_succ]
    refine tkH (i := 15) (v := ?_) (fun V hV => ?_) ?_
    rotate_left
    · go_simp
      try with_reducible rfl
    try simp only [Act.put, List.getElem_toArray, List.getElem_cons_zero, List.getElem_cons_succ, List.setIfInBounds_toArray, List.set_cons_zero, List.set_cons_succ]
    refine tkH (i := 16) (v := ?_) (fun V hV => ?_) ?_
    rotate_left
    · go_simp
      try with_reducible rfl
    try simp only [Act.put, List.getElem_toArray, List.getElem_cons_zero, List.getElem_cons_succ, List.setIfInBounds_toArray, List.set_cons_zero, List.set_cons_succ]
    refine tkH (i := 17) (v := ?_) (fun V hV => ?_) ?_
    rotate_left
    · have hX := HX.out.below hV; have e0 := (hX.2 0 (.int .i64 300) rfl).1; have e1 := (hX.2 1 (.int .i64 315) rfl).1; go_simp
      try with_reducible rfl
    try simp only [Act.put, List.getElem_toArray, List.getElem_cons_zero, List.getElem_cons_succ, List.setIfInBounds_toArray, List.set_cons_zero, List.set_cons_succ]
    refine wpAnyH_ready (rs := [18]) (by kernel_rfl) (by simp) ?_
    refine AllReadyH.cons (o := _) rfl (fun K hK => ?_) AllReadyH.nil
    go_simp
    (with_reducible refine (between_any 300 315 _).mono ?_)
    rintro e v18 ⟨rfl, hb⟩
    refine hK.out _ _ (hS.trans (hb.mono hS.size)) (fun hS => ?_)
    clear hK K
    try simp only [List.setIfInBounds_toArray, List.set_cons_zero, List.set_cons_succ]
    refine tkH (i := 19) (v := ?_) (fun V hV => ?_) ?_
    rotate_left
    · go_simp
      try with_reducible rfl
    try simp only [Act.put, List.getElem_toArray, List.getElem_cons_zero, List.getElem_cons_succ, List.setIfInBounds_toArray, List.set_cons_zero, List.set_cons_succ]
    refine tkH (i := 20) (v := ?_) (fun V hV => ?_) ?_
    rotate_left
    · go_simp
      try with_reducible rfl
    try simp only [Act.put, List.getElem_toArray, List.getElem_cons_zero, List.getElem_cons_succ, List.setIfInBounds_toArray, List.set_cons_zero, List.set_cons_succ]
    refine tkH (i := 21) (v := ?_) (fun V hV => ?_) ?_
    rotate_left
    · go_simp
      try with_reducible rfl
    try simp only [Act.put, List.getElem_toArray, List.getElem_cons_zero, List.getElem_cons_succ, List.setIfInBounds_toArray, List.set_cons_zero, List.set_cons_succ]
    refine tkH (i := 22) (v := ?_) (fun V hV => ?_) ?_
    rotate_left
    · go_simp
      try with_reducible rfl
    try simp only [Act.put, List.getElem_toArray, List.getElem_cons_zero, List.getElem_cons_succ, List.setIfInBounds_toArray, List.set_cons_zero, List.set_cons_succ]
    refine tkH (i := 23) (v := ?_) (fun V hV => ?_) ?_
    rotate_left
    · go_simp
      try with_reducible rfl
    try simp only [Act.put, List.getElem_toArray, List.getElem_cons_zero, List.getElem_cons_succ, List.setIfInBounds_toArray, List.set_cons_zero, List.set_cons_succ]
    as_aux_lemma =>
      refine tkH (i := 24) (v := ?_) (fun V hV => ?_) ?_
      rotate_left
      · go_simp
        try with_reducible rfl
      try simp only [Act.put, List.getElem_toArray, List.getElem_cons_zero, List.getElem_cons_succ, List.setIfInBounds_toArray, List.set_cons_zero, List.set_cons_succ]
      refine tkH (i := 25) (v := ?_) (fun V hV => ?_) ?_
      rotate_left
      · go_simp
        try with_reducible rfl
      try simp only [Act.put, List.getElem_toArray, List.getElem_cons_zero, List.getElem_cons_succ, List.setIfInBounds_toArray, List.set_cons_zero, List.set_cons_succ]
      refine tkH (i := 26) (v := ?_) (fun V hV => ?_) ?_
      rotate_left
      · go_simp
        try with_reducible rfl
      try simp only [Act.put, List.getElem_toArray, List.getElem_cons_zero, List.getElem_cons_succ, List.setIfInBounds_toArray, List.set_cons_zero, List.set_cons_succ]
      refine wpAnyH_ready (rs := [27]) (by kernel_rfl) (by simp) ?_
      refine AllReadyH.cons (o := _) rfl (fun K hK => ?_) AllReadyH.nil
      obtain ⟨v27, hv27⟩ : ∃ V, v18.alloc (.cells #[.int .i64 1] 3) = V := ⟨_, rfl⟩
      have HL27 : Hid (IntsAt v27 (some ⟨v18.heap.size, 0, none⟩) 1 [1]) := hid (by rw [← hv27]; exact lit_ints v18 [1])
      have hb : Below v18.heap.size v18 v27 := by rw [← hv27]; exact (Below.refl _ _).alloc (Nat.le_refl _) _
      have hS2 := hS.trans (hb.mono hS.size)
      go_simp
      clear hv27
      refine hK.out _ _ (hS2) (fun hS => ?_)
      clear hK K
      try simp only [List.setIfInBounds_toArray, List.set_cons_zero, List.set_cons_succ]
      refine wpAnyH_ready (rs := [28]) (by kernel_rfl) (by simp) ?_
      refine AllReadyH.cons (o := _) rfl (fun K hK => ?_) AllReadyH.nil
      go_simp
      (with_reducible refine (ints_any _ _ _ [1] _ _ _ [1] _ (HI3.out.below hS) HL27.out (by decide) (by decide)).mono ?_)
      rintro e v28 ⟨rfl, hb⟩
      rw [show decide (([1] : List Int) = [1]) = true from by decide]
      refine hK.out _ _ (hS.trans (hb.mono hS.size)) (fun hS => ?_)
      clear hK K
      try simp only [List.setIfInBounds_toArray, List.set_cons_zero, List.set_cons_succ]
      refine tkH (i := 29) (v := ?_) (fun V hV => ?_) ?_
      rotate_left
      · go_simp
        try with_reducible rfl
      try simp only [Act.put, List.getElem_toArray, List.getElem_cons_zero, List.getElem_cons_succ, List.setIfInBounds_toArray, List.set_cons_zero, List.set_cons_succ]
      refine tkH (i := 30) (v := ?_) (fun V hV => ?_) ?_
      rotate_left
      · go_simp
        try with_reducible rfl
      try simp only [Act.put, List.getElem_toArray, List.getElem_cons_zero, List.getElem_cons_succ, List.setIfInBounds_toArray, List.set_cons_zero, List.set_cons_succ]
      refine tkH (i := 31) (v := ?_) (fun V hV => ?_) ?_
      rotate_left
      · go_simp
        try with_reducible rfl
      try simp only [Act.put, List.getElem_toArray, List.getElem_cons_zero, List.getElem_cons_succ, List.setIfInBounds_toArray, List.set_cons_zero, List.set_cons_succ]
      refine tkH (i := 32) (v := ?_) (fun V hV => ?_) ?_
      rotate_left
      · go_simp
        try with_reducible rfl
      try simp only [Act.put, List.getElem_toArray, List.getElem_cons_zero, List.getElem_cons_succ, List.setIfInBounds_toArray, List.set_cons_zero, List.set_cons_succ]
      refine tkH (i := 33) (v := ?_) (fun V hV => ?_) ?_
      rotate_left
      · go_simp
        try with_reducible rfl
      try simp only [Act.put, List.getElem_toArray, List.getElem_cons_zero, List.getElem_cons_succ, List.setIfInBounds_toArray, List.set_cons_zero, List.set_cons_succ]
      refine tkH (i := 34) (v := ?_) (fun V hV => ?_) ?_
      rotate_left
      · go_simp
        try with_reducible rfl
      try simp only [Act.put, List.getElem_toArray, List.getElem_cons_zero, List.getElem_cons_succ, List.setIfInBounds_toArray, List.set_cons_zero, List.set_cons_succ]
      refine tkH (i := 35) (v := ?_) (fun V hV => ?_) ?_
      rotate_left
      · go_simp
        try with_reducible rfl
      try simp only [Act.put, List.getElem_toArray, List.getElem_cons_zero, List.getElem_cons_succ, List.setIfInBounds_toArray, List.set_cons_zero, List.set_cons_succ]
      refine tkH (i := 36) (v := ?_) (fun V hV => ?_) ?_
      rotate_left
      · go_simp
        try with_reducible rfl
      try simp only [Act.put, List.getElem_toArray, List.getElem_cons_zero, List.getElem_cons_succ, List.setIfInBounds_toArray, List.set_cons_zero, List.set_cons_succ]
      refine tkH (i := 37) (v := ?_) (fun V hV => ?_) ?_
      rotate_left
      · go_simp
        try with_reducible rfl
      try simp only [Act.put, List.getElem_toArray, List.getElem_cons_zero, List.getElem_cons_succ, List.setIfInBounds_toArray, List.set_cons_zero, List.set_cons_succ]
      refine tkH (i := 38) (v := ?_) (fun V hV => ?_) ?_
      rotate_left
      · go_simp
        try with_reducible rfl
      try simp only [Act.put, List.getElem_toArray, List.getElem_cons_zero, List.getElem_cons_succ, List.setIfInBounds_toArray, List.set_cons_zero, List.set_cons_succ]
      refine tkH (i := 39) (v := ?_) (fun V hV => ?_) ?_
      rotate_left
      · go_simp
        try with_reducible rfl
      try simp only [Act.put, List.getElem_toArray, List.getElem_cons_zero, List.getElem_cons_succ, List.setIfInBounds_toArray, List.set_cons_zero, List.set_cons_succ]
      refine tkH (i := 40) (v := ?_) (fun V hV => ?_) ?_
      rotate_left
      · go_simp
        try with_reducible rfl
      try simp only [Act.put, List.getElem_toArray, List.getElem_cons_zero, List.getElem_cons_succ, List.setIfInBounds_toArray, List.set_cons_zero, List.set_cons_succ]
      refine wpAnyH_ready (rs := [41]) (by kernel_rfl) (by simp) ?_
      refine AllReadyH.cons (o := _) rfl (fun K hK => ?_) AllReadyH.nil
      obtain ⟨v41, hv41⟩ : ∃ V, v28.alloc (.cells #[.int .i64 0] 3) = V := ⟨_, rfl⟩
      have HL41 : Hid (IntsAt v41 (some ⟨v28.heap.size, 0, none⟩) 1 [0]) := hid (by rw [← hv41]; exact lit_ints v28 [0])
      have hb : Below v28.heap.size v28 v41 := by rw [← hv41]; exact (Below.refl _ _).alloc (Nat.le_refl _) _
      have hS2 := hS.trans (hb.mono hS.size)
      go_simp
      clear hv41
      refine hK.out _ _ (hS2) (fun hS => ?_)
      clear hK K
      try simp only [List.setIfInBounds_toArray, List.set_cons_zero, List.set_cons_succ]
      refine wpAnyH_ready (rs := [42]) (by kernel_rfl) (by simp) ?_
      refine AllReadyH.cons (o := _) rfl (fun K hK => ?_) AllReadyH.nil
      go_simp
      (with_reducible refine (ints_any _ _ _ [0] _ _ _ [0] _ (HI4.out.below hS) HL41.out (by decide) (by decide)).mono ?_)
      rintro e v42 ⟨rfl, hb⟩
      rw [show decide (([0] : List Int) = [0]) = true from by decide]
      refine hK.out _ _ (hS.trans (hb.mono hS.size)) (fun hS => ?_)
      clear hK K
      try simp only [List.setIfInBounds_toArray, List.set_cons_zero, List.set_cons_succ]
      refine tkH (i := 43) (v := ?_) (fun V hV => ?_) ?_
      rotate_left
      · go_simp
        try with_reducible rfl
      try simp only [Act.put, List.getElem_toArray, List.getElem_cons_zero, List.getElem_cons_succ, List.setIfInBounds_toArray, List.set_cons_zero, List.set_cons_succ]
      refine tkH (i := 44) (v := ?_) (fun V hV => ?_) ?_
      rotate_left
      · go_simp
        try with_reducible rfl
      try simp only [Act.put, List.getElem_toArray, List.getElem_cons_zero, List.getElem_cons_succ, List.setIfInBounds_toArray, List.set_cons_zero, List.set_cons_succ]
      refine tkH (i := 45) (v := ?_) (fun V hV => ?_) ?_
      rotate_left
      · go_simp
        try with_reducible rfl
      try simp only [Act.put, List.getElem_toArray, List.getElem_cons_zero, List.getElem_cons_succ, List.setIfInBounds_toArray, List.set_cons_zero, List.set_cons_succ]
      refine tkH (i := 46) (v := ?_) (fun V hV => ?_) ?_
      rotate_left
      · go_simp
        try with_reducible rfl
      try simp only [Act.put, List.getElem_toArray, List.getElem_cons_zero, List.getElem_cons_succ, List.setIfInBounds_toArray, List.set_cons_zero, List.set_cons_succ]
      refine tkH (i := 47) (v := ?_) (fun V hV => ?_) ?_
      rotate_left
      · go_simp
        try with_reducible rfl
      try simp only [Act.put, List.getElem_toArray, List.getElem_cons_zero, List.getElem_cons_succ, List.setIfInBounds_toArray, List.set_cons_zero, List.set_cons_succ]
      refine tkH (i := 48) (v := ?_) (fun V hV => ?_) ?_
      rotate_left
      · go_simp
        try with_reducible rfl
      try simp only [Act.put, List.getElem_toArray, List.getElem_cons_zero, List.getElem_cons_succ, List.setIfInBounds_toArray, List.set_cons_zero, List.set_cons_succ]
      refine tkH (i := 49) (v := ?_) (fun V hV => ?_) ?_
      rotate_left
      · go_simp
        try with_reducible rfl
      try simp only [Act.put, List.getElem_toArray, List.getElem_cons_zero, List.getElem_cons_succ, List.setIfInBounds_toArray, List.set_cons_zero, List.set_cons_succ]
      refine tkH (i := 50) (v := ?_) (fun V hV => ?_) ?_
      rotate_left
      · go_simp
        try with_reducible rfl
      try simp only [Act.put, List.getElem_toArray, List.getElem_cons_zero, List.getElem_cons_succ, List.setIfInBounds_toArray, List.set_cons_zero, List.set_cons_succ]
      refine tkH (i := 51) (v := ?_) (fun V hV => ?_) ?_
      rotate_left
      · go_simp
        try with_reducible rfl
      try simp only [Act.put, List.getElem_toArray, List.getElem_cons_zero, List.getElem_cons_succ, List.setIfInBounds_toArray, List.set_cons_zero, List.set_cons_succ]
      refine tkH (i := 52) (v := ?_) (fun V hV => ?_) ?_
      rotate_left
      · go_simp
        try with_reducible rfl
      try simp only [Act.put, List.getElem_toArray, List.getElem_cons_zero, List.getElem_cons_succ, List.setIfInBounds_toArray, List.set_cons_zero, List.set_cons_succ]
      refine tkH (i := 53) (v := ?_) (fun V hV => ?_) ?_
      rotate_left
      · go_simp
        try with_reducible rfl
      try simp only [Act.put, List.getElem_toArray, List.getElem_cons_zero, List.getElem_cons_succ, List.setIfInBounds_toArray, List.set_cons_zero, List.set_cons_succ]
      refine tkH (i := 54) (v := ?_) (fun V hV => ?_) ?_
      rotate_left
      · go_simp
        try with_reducible rfl
      try simp only [Act.put, List.getElem_toArray, List.getElem_cons_zero, List.getElem_cons_succ, List.setIfInBounds_toArray, List.set_cons_zero, List.set_cons_succ]
      refine tkH (i := 55) (v := ?_) (fun V hV => ?_) ?_
      rotate_left
      · go_simp
        try with_reducible rfl
      try simp only [Act.put, List.getElem_toArray, List.getElem_cons_zero, List.getElem_cons_succ, List.setIfInBounds_toArray, List.set_cons_zero, List.set_cons_succ]
      refine tkH (i := 56) (v := ?_) (fun V hV => ?_) ?_
      rotate_left
      · go_simp
        try with_reducible rfl
      try simp only [Act.put, List.getElem_toArray, List.getElem_cons_zero, List.getElem_cons_succ, List.setIfInBounds_toArray, List.set_cons_zero, List.set_cons_succ]
      refine tkH (i := 57) (v := ?_) (fun V hV => ?_) ?_
      rotate_left
      · go_simp
        try with_reducible rfl
      try simp only [Act.put, List.getElem_toArray, List.getElem_cons_zero, List.getElem_cons_succ, List.setIfInBounds_toArray, List.set_cons_zero, List.set_cons_succ]
      refine tkH (i := 58) (v := ?_) (fun V hV => ?_) ?_
      rotate_left
      · go_simp
        try with_reducible rfl
      try simp only [Act.put, List.getElem_toArray, List.getElem_cons_zero, List.getElem_cons_succ, List.setIfInBounds_toArray, List.set_cons_zero, List.set_cons_succ]
      refine wpAnyH_ready (rs := [59, 60]) (by kernel_rfl) (by simp) ?_
      refine AllReadyH.cons (o := _) rfl (fun K hK => ?_) ?_
      · skip
        go_simp
        refine (reserved_any 315 _).mono ?_
        rintro e v59 ⟨x59, y59, rfl, h1, h2, _, hb⟩
        have HP59 : Hid (PrgAt v59 (threeP 315 []) (some ⟨x59, 0, none⟩) 2 (some ⟨y59, 0, none⟩) 3 none 0) := hid (three_at h1 h2 (rows_none _))
        clear h1 h2
        have hS3 := hS.trans (hb.mono hS.size)
        refine hK.out _ _ (hS3) (fun hS => ?_)
        clear hK K
        try simp only [List.setIfInBounds_toArray, List.set_cons_zero, List.set_cons_succ]
        refine wpAnyH_ready (rs := [60]) (by kernel_rfl) (by simp) ?_
        refine AllReadyH.cons (o := _) rfl (fun K hK => ?_) AllReadyH.nil
        obtain ⟨v60, hv60⟩ : ∃ V, v59.alloc (.cells #[.int .i64 0] 3) = V := ⟨_, rfl⟩
        have HL60 : Hid (IntsAt v60 (some ⟨v59.heap.size, 0, none⟩) 1 [0]) := hid (by rw [← hv60]; exact lit_ints v59 [0])
        have hb : Below v59.heap.size v59 v60 := by rw [← hv60]; exact (Below.refl _ _).alloc (Nat.le_refl _) _
        replace HP59 := hid (HP59.out.below hb)
        have hS2 := hS.trans (hb.mono hS.size)
        go_simp
        clear hv60
        refine hK.out _ _ (hS2) (fun hS => ?_)
        clear hK K
        try simp only [List.setIfInBounds_toArray, List.set_cons_zero, List.set_cons_succ]
        refine wpAnyH_ready (rs := [61]) (by kernel_rfl) (by simp) ?_
        refine AllReadyH.cons (o := _) rfl (fun K hK => ?_) AllReadyH.nil
        go_simp
        refine (prove_any (threeP 315 []) (some ⟨x59, 0, none⟩) 2 2 (some ⟨y59, 0, none⟩) 3 3 none 0 0 _ 1 1 [0] 49 _ HP59.out HL60.out (by decide)).mono ?_
        rintro e v61 ⟨rfl, hb⟩
        rw [nm_prove.1]
        refine hK.out _ _ (hS.trans (hb.mono hS.size)) (fun hS => ?_)
        clear hK K
        try simp only [List.setIfInBounds_toArray, List.set_cons_zero, List.set_cons_succ]
        refine tkH (i := 62) (v := ?_) (fun V hV => ?_) ?_
        rotate_left
        · go_simp
          try with_reducible rfl
        try simp only [Act.put, List.getElem_toArray, List.getElem_cons_zero, List.getElem_cons_succ, List.setIfInBounds_toArray, List.set_cons_zero, List.set_cons_succ]
        refine tkH (i := 63) (v := ?_) (fun V hV => ?_) ?_
        rotate_left
        · go_simp
          try with_reducible rfl
        try simp only [Act.put, List.getElem_toArray, List.getElem_cons_zero, List.getElem_cons_succ, List.setIfInBounds_toArray, List.set_cons_zero, List.set_cons_succ]
        refine wpAnyH_ready (rs := [64, 65]) (by kernel_rfl) (by simp) ?_
        refine AllReadyH.cons (o := _) rfl (fun K hK => ?_) ?_
        · skip
          go_simp
          refine (reserved_any 314 _).mono ?_
          rintro e v64 ⟨x64, y64, rfl, h1, h2, _, hb⟩
          have HP64 : Hid (PrgAt v64 (threeP 314 []) (some ⟨x64, 0, none⟩) 2 (some ⟨y64, 0, none⟩) 3 none 0) := hid (three_at h1 h2 (rows_none _))
          clear h1 h2
          have hS3 := hS.trans (hb.mono hS.size)
          refine hK.out _ _ (hS3) (fun hS => ?_)
          clear hK K
          try simp only [List.setIfInBounds_toArray, List.set_cons_zero, List.set_cons_succ]
          refine wpAnyH_ready (rs := [65]) (by kernel_rfl) (by simp) ?_
          refine AllReadyH.cons (o := _) rfl (fun K hK => ?_) AllReadyH.nil
          obtain ⟨v65, hv65⟩ : ∃ V, v64.alloc (.cells #[.int .i64 0] 3) = V := ⟨_, rfl⟩
          have HL65 : Hid (IntsAt v65 (some ⟨v64.heap.size, 0, none⟩) 1 [0]) := hid (by rw [← hv65]; exact lit_ints v64 [0])
          have hb : Below v64.heap.size v64 v65 := by rw [← hv65]; exact (Below.refl _ _).alloc (Nat.le_refl _) _
          replace HP64 := hid (HP64.out.below hb)
          have hS2 := hS.trans (hb.mono hS.size)
          go_simp
          clear hv65
          refine hK.out _ _ (hS2) (fun hS => ?_)
          clear hK K
          try simp only [List.setIfInBounds_toArray, List.set_cons_zero, List.set_cons_succ]
          refine wpAnyH_ready (rs := [66]) (by kernel_rfl) (by simp) ?_
          refine AllReadyH.cons (o := _) rfl (fun K hK => ?_) AllReadyH.nil
          go_simp
          refine (prove_any (threeP 314 []) (some ⟨x64, 0, none⟩) 2 2 (some ⟨y64, 0, none⟩) 3 3 none 0 0 _ 1 1 [0] 50 _ HP64.out HL65.out (by decide)).mono ?_
          rintro e v66 ⟨rfl, hb⟩
          rw [nm_prove.2.1]
          refine hK.out _ _ (hS.trans (hb.mono hS.size)) (fun hS => ?_)
          clear hK K
          try simp only [List.setIfInBounds_toArray, List.set_cons_zero, List.set_cons_succ]
          refine tkH (i := 67) (v := ?_) (fun V hV => ?_) ?_
          rotate_left
          · go_simp
            try with_reducible rfl
          try simp only [Act.put, List.getElem_toArray, List.getElem_cons_zero, List.getElem_cons_succ, List.setIfInBounds_toArray, List.set_cons_zero, List.set_cons_succ]
          refine tkH (i := 68) (v := ?_) (fun V hV => ?_) ?_
          rotate_left
          · go_simp
            try with_reducible rfl
          try simp only [Act.put, List.getElem_toArray, List.getElem_cons_zero, List.getElem_cons_succ, List.setIfInBounds_toArray, List.set_cons_zero, List.set_cons_succ]
          refine wpAnyH_ready (rs := [69, 70]) (by kernel_rfl) (by simp) ?_
          refine AllReadyH.cons (o := _) rfl (fun K hK => ?_) ?_
          · skip
            go_simp
            refine (reserved_any 315 _).mono ?_
            rintro e v69 ⟨x69, y69, rfl, h1, h2, _, hb⟩
            have HP69 : Hid (PrgAt v69 (threeP 315 []) (some ⟨x69, 0, none⟩) 2 (some ⟨y69, 0, none⟩) 3 none 0) := hid (three_at h1 h2 (rows_none _))
            clear h1 h2
            have hS3 := hS.trans (hb.mono hS.size)
            refine hK.out _ _ (hS3) (fun hS => ?_)
            clear hK K
            try simp only [List.setIfInBounds_toArray, List.set_cons_zero, List.set_cons_succ]
            refine wpAnyH_ready (rs := [70]) (by kernel_rfl) (by simp) ?_
            refine AllReadyH.cons (o := _) rfl (fun K hK => ?_) AllReadyH.nil
            obtain ⟨v70, hv70⟩ : ∃ V, v69.alloc (.cells #[.int .i64 0, .int .i64 2] 3) = V := ⟨_, rfl⟩
            have HL70 : Hid (IntsAt v70 (some ⟨v69.heap.size, 0, none⟩) 2 [0, 2]) := hid (by rw [← hv70]; exact lit_ints v69 [0, 2])
            have hb : Below v69.heap.size v69 v70 := by rw [← hv70]; exact (Below.refl _ _).alloc (Nat.le_refl _) _
            replace HP69 := hid (HP69.out.below hb)
            have hS2 := hS.trans (hb.mono hS.size)
            go_simp
            clear hv70
            refine hK.out _ _ (hS2) (fun hS => ?_)
            clear hK K
            try simp only [List.setIfInBounds_toArray, List.set_cons_zero, List.set_cons_succ]
            refine wpAnyH_ready (rs := [71]) (by kernel_rfl) (by simp) ?_
            refine AllReadyH.cons (o := _) rfl (fun K hK => ?_) AllReadyH.nil
            go_simp
            refine (prove_any (threeP 315 []) (some ⟨x69, 0, none⟩) 2 2 (some ⟨y69, 0, none⟩) 3 3 none 0 0 _ 2 2 [0, 2] 99 _ HP69.out HL70.out (by decide)).mono ?_
            rintro e v71 ⟨rfl, hb⟩
            rw [nm_prove.2.2]
            refine hK.out _ _ (hS.trans (hb.mono hS.size)) (fun hS => ?_)
            clear hK K
            try simp only [List.setIfInBounds_toArray, List.set_cons_zero, List.set_cons_succ]
            refine tkH (i := 72) (v := ?_) (fun V hV => ?_) ?_
            rotate_left
            · go_simp
              try with_reducible rfl
            try simp only [Act.put, List.getElem_toArray, List.getElem_cons_zero, List.getElem_cons_succ, List.setIfInBounds_toArray, List.set_cons_zero, List.set_cons_succ]
            refine wpAnyH_done (by kernel_rfl) ?_ _
            go_wp2
            go_meet
            case rel => exact ⟨rfl, HW.out.trans (hS.mono HW.out.size)⟩
          refine AllReadyH.cons (o := _) rfl (fun K hK => ?_) AllReadyH.nil
          obtain ⟨v70, hv70⟩ : ∃ V, v66.alloc (.cells #[.int .i64 0, .int .i64 2] 3) = V := ⟨_, rfl⟩
          have HL70 : Hid (IntsAt v70 (some ⟨v66.heap.size, 0, none⟩) 2 [0, 2]) := hid (by rw [← hv70]; exact lit_ints v66 [0, 2])
          have hb : Below v66.heap.size v66 v70 := by rw [← hv70]; exact (Below.refl _ _).alloc (Nat.le_refl _) _
          have hS2 := hS.trans (hb.mono hS.size)
          go_simp
          clear hv70
          refine hK.out _ _ (hS2) (fun hS => ?_)
          clear hK K
          try simp only [List.setIfInBounds_toArray, List.set_cons_zero, List.set_cons_succ]
          refine wpAnyH_ready (rs := [69]) (by kernel_rfl) (by simp) ?_
          refine AllReadyH.cons (o := _) rfl (fun K hK => ?_) AllReadyH.nil
          go_simp
          refine (reserved_any 315 _).mono ?_
          rintro e v69 ⟨x69, y69, rfl, h1, h2, _, hb⟩
          have HP69 : Hid (PrgAt v69 (threeP 315 []) (some ⟨x69, 0, none⟩) 2 (some ⟨y69, 0, none⟩) 3 none 0) := hid (three_at h1 h2 (rows_none _))
          replace HL70 := hid (HL70.out.below hb)
          clear h1 h2
          have hS3 := hS.trans (hb.mono hS.size)
          refine hK.out _ _ (hS3) (fun hS => ?_)
          clear hK K
          try simp only [List.setIfInBounds_toArray, List.set_cons_zero, List.set_cons_succ]
          refine wpAnyH_ready (rs := [71]) (by kernel_rfl) (by simp) ?_
          refine AllReadyH.cons (o := _) rfl (fun K hK => ?_) AllReadyH.nil
          go_simp
          refine (prove_any (threeP 315 []) (some ⟨x69, 0, none⟩) 2 2 (some ⟨y69, 0, none⟩) 3 3 none 0 0 _ 2 2 [0, 2] 99 _ HP69.out HL70.out (by decide)).mono ?_
          rintro e v71 ⟨rfl, hb⟩
          rw [nm_prove.2.2]
          refine hK.out _ _ (hS.trans (hb.mono hS.size)) (fun hS => ?_)
          clear hK K
          try simp only [List.setIfInBounds_toArray, List.set_cons_zero, List.set_cons_succ]
          refine tkH (i := 72) (v := ?_) (fun V hV => ?_) ?_
          rotate_left
          · go_simp
            try with_reducible rfl
          try simp only [Act.put, List.getElem_toArray, List.getElem_cons_zero, List.getElem_cons_succ, List.setIfInBounds_toArray, List.set_cons_zero, List.set_cons_succ]
          refine wpAnyH_done (by kernel_rfl) ?_ _
          go_wp2
          go_meet
          case rel => exact ⟨rfl, HW.out.trans (hS.mono HW.out.size)⟩
        refine AllReadyH.cons (o := _) rfl (fun K hK => ?_) AllReadyH.nil
        obtain ⟨v65, hv65⟩ : ∃ V, v61.alloc (.cells #[.int .i64 0] 3) = V := ⟨_, rfl⟩
        have HL65 : Hid (IntsAt v65 (some ⟨v61.heap.size, 0, none⟩) 1 [0]) := hid (by rw [← hv65]; exact lit_ints v61 [0])
        have hb : Below v61.heap.size v61 v65 := by rw [← hv65]; exact (Below.refl _ _).alloc (Nat.le_refl _) _
        have hS2 := hS.trans (hb.mono hS.size)
        go_simp
        clear hv65
        refine hK.out _ _ (hS2) (fun hS => ?_)
        clear hK K
        try simp only [List.setIfInBounds_toArray, List.set_cons_zero, List.set_cons_succ]
        refine wpAnyH_ready (rs := [64]) (by kernel_rfl) (by simp) ?_
        refine AllReadyH.cons (o := _) rfl (fun K hK => ?_) AllReadyH.nil
        go_simp
        refine (reserved_any 314 _).mono ?_
        rintro e v64 ⟨x64, y64, rfl, h1, h2, _, hb⟩
        have HP64 : Hid (PrgAt v64 (threeP 314 []) (some ⟨x64, 0, none⟩) 2 (some ⟨y64, 0, none⟩) 3 none 0) := hid (three_at h1 h2 (rows_none _))
        replace HL65 := hid (HL65.out.below hb)
        clear h1 h2
        have hS3 := hS.trans (hb.mono hS.size)
        refine hK.out _ _ (hS3) (fun hS => ?_)
        clear hK K
        try simp only [List.setIfInBounds_toArray, List.set_cons_zero, List.set_cons_succ]
        refine wpAnyH_ready (rs := [66]) (by kernel_rfl) (by simp) ?_
        refine AllReadyH.cons (o := _) rfl (fun K hK => ?_) AllReadyH.nil
        go_simp
        refine (prove_any (threeP 314 []) (some ⟨x64, 0, none⟩) 2 2 (some ⟨y64, 0, none⟩) 3 3 none 0 0 _ 1 1 [0] 50 _ HP64.out HL65.out (by decide)).mono ?_
        rintro e v66 ⟨rfl, hb⟩
        rw [nm_prove.2.1]
        refine hK.out _ _ (hS.trans (hb.mono hS.size)) (fun hS => ?_)
        clear hK K
        try simp only [List.setIfInBounds_toArray, List.set_cons_zero, List.set_cons_succ]
        refine tkH (i := 67) (v := ?_) (fun V hV => ?_) ?_
        rotate_left
        · go_simp
          try with_reducible rfl
        try simp only [Act.put, List.getElem_toArray, List.getElem_cons_zero, List.getElem_cons_succ, List.setIfInBounds_toArray, List.set_cons_zero, List.set_cons_succ]
        refine tkH (i := 68) (v := ?_) (fun V hV => ?_) ?_
        rotate_left
        · go_simp
          try with_reducible rfl
        try simp only [Act.put, List.getElem_toArray, List.getElem_cons_zero, List.getElem_cons_succ, List.setIfInBounds_toArray, List.set_cons_zero, List.set_cons_succ]
        refine wpAnyH_ready (rs := [69, 70]) (by kernel_rfl) (by simp) ?_
        refine AllReadyH.cons (o := _) rfl (fun K hK => ?_) ?_
        · skip
          go_simp
          refine (reserved_any 315 _).mono ?_
          rintro e v69 ⟨x69, y69, rfl, h1, h2, _, hb⟩
          have HP69 : Hid (PrgAt v69 (threeP 315 []) (some ⟨x69, 0, none⟩) 2 (some ⟨y69, 0, none⟩) 3 none 0) := hid (three_at h1 h2 (rows_none _))
          clear h1 h2
          have hS3 := hS.trans (hb.mono hS.size)
          refine hK.out _ _ (hS3) (fun hS => ?_)
          clear hK K
          try simp only [List.setIfInBounds_toArray, List.set_cons_zero, List.set_cons_succ]
          refine wpAnyH_ready (rs := [70]) (by kernel_rfl) (by simp) ?_
          refine AllReadyH.cons (o := _) rfl (fun K hK => ?_) AllReadyH.nil
          obtain ⟨v70, hv70⟩ : ∃ V, v69.alloc (.cells #[.int .i64 0, .int .i64 2] 3) = V := ⟨_, rfl⟩
          have HL70 : Hid (IntsAt v70 (some ⟨v69.heap.size, 0, none⟩) 2 [0, 2]) := hid (by rw [← hv70]; exact lit_ints v69 [0, 2])
          have hb : Below v69.heap.size v69 v70 := by rw [← hv70]; exact (Below.refl _ _).alloc (Nat.le_refl _) _
          replace HP69 := hid (HP69.out.below hb)
          have hS2 := hS.trans (hb.mono hS.size)
          go_simp
          clear hv70
          refine hK.out _ _ (hS2) (fun hS => ?_)
          clear hK K
          try simp only [List.setIfInBounds_toArray, List.set_cons_zero, List.set_cons_succ]
          refine wpAnyH_ready (rs := [71]) (by kernel_rfl) (by simp) ?_
          refine AllReadyH.cons (o := _) rfl (fun K hK => ?_) AllReadyH.nil
          go_simp
          refine (prove_any (threeP 315 []) (some ⟨x69, 0, none⟩) 2 2 (some ⟨y69, 0, none⟩) 3 3 none 0 0 _ 2 2 [0, 2] 99 _ HP69.out HL70.out (by decide)).mono ?_
          rintro e v71 ⟨rfl, hb⟩
          rw [nm_prove.2.2]
          refine hK.out _ _ (hS.trans (hb.mono hS.size)) (fun hS => ?_)
          clear hK K
          try simp only [List.setIfInBounds_toArray, List.set_cons_zero, List.set_cons_succ]
          refine tkH (i := 72) (v := ?_) (fun V hV => ?_) ?_
          rotate_left
          · go_simp
            try with_reducible rfl
          try simp only [Act.put, List.getElem_toArray, List.getElem_cons_zero, List.getElem_cons_succ, List.setIfInBounds_toArray, List.set_cons_zero, List.set_cons_succ]
          refine wpAnyH_done (by kernel_rfl) ?_ _
          go_wp2
          go_meet
          case rel => exact ⟨rfl, HW.out.trans (hS.mono HW.out.size)⟩
        refine AllReadyH.cons (o := _) rfl (fun K hK => ?_) AllReadyH.nil
        obtain ⟨v70, hv70⟩ : ∃ V, v66.alloc (.cells #[.int .i64 0, .int .i64 2] 3) = V := ⟨_, rfl⟩
        have HL70 : Hid (IntsAt v70 (some ⟨v66.heap.size, 0, none⟩) 2 [0, 2]) := hid (by rw [← hv70]; exact lit_ints v66 [0, 2])
        have hb : Below v66.heap.size v66 v70 := by rw [← hv70]; exact (Below.refl _ _).alloc (Nat.le_refl _) _
        have hS2 := hS.trans (hb.mono hS.size)
        go_simp
        clear hv70
        refine hK.out _ _ (hS2) (fun hS => ?_)
        clear hK K
        try simp only [List.setIfInBounds_toArray, List.set_cons_zero, List.set_cons_succ]
        refine wpAnyH_ready (rs := [69]) (by kernel_rfl) (by simp) ?_
        refine AllReadyH.cons (o := _) rfl (fun K hK => ?_) AllReadyH.nil
        go_simp
        refine (reserved_any 315 _).mono ?_
        rintro e v69 ⟨x69, y69, rfl, h1, h2, _, hb⟩
        have HP69 : Hid (PrgAt v69 (threeP 315 []) (some ⟨x69, 0, none⟩) 2 (some ⟨y69, 0, none⟩) 3 none 0) := hid (three_at h1 h2 (rows_none _))
        replace HL70 := hid (HL70.out.below hb)
        clear h1 h2
        have hS3 := hS.trans (hb.mono hS.size)
        refine hK.out _ _ (hS3) (fun hS => ?_)
        clear hK K
        try simp only [List.setIfInBounds_toArray, List.set_cons_zero, List.set_cons_succ]
        refine wpAnyH_ready (rs := [71]) (by kernel_rfl) (by simp) ?_
        refine AllReadyH.cons (o := _) rfl (fun K hK => ?_) AllReadyH.nil
        go_simp
        refine (prove_any (threeP 315 []) (some ⟨x69, 0, none⟩) 2 2 (some ⟨y69, 0, none⟩) 3 3 none 0 0 _ 2 2 [0, 2] 99 _ HP69.out HL70.out (by decide)).mono ?_
        rintro e v71 ⟨rfl, hb⟩
        rw [nm_prove.2.2]
        refine hK.out _ _ (hS.trans (hb.mono hS.size)) (fun hS => ?_)
        clear hK K
        try simp only [List.setIfInBounds_toArray, List.set_cons_zero, List.set_cons_succ]
        refine tkH (i := 72) (v := ?_) (fun V hV => ?_) ?_
        rotate_left
        · go_simp
          try with_reducible rfl
        try simp only [Act.put, List.getElem_toArray, List.getElem_cons_zero, List.getElem_cons_succ, List.setIfInBounds_toArray, List.set_cons_zero, List.set_cons_succ]
        refine wpAnyH_done (by kernel_rfl) ?_ _
        go_wp2
        go_meet
        case rel => exact ⟨rfl, HW.out.trans (hS.mono HW.out.size)⟩
      refine AllReadyH.cons (o := _) rfl (fun K hK => ?_) AllReadyH.nil
      obtain ⟨v60, hv60⟩ : ∃ V, v42.alloc (.cells #[.int .i64 0] 3) = V := ⟨_, rfl⟩
      have HL60 : Hid (IntsAt v60 (some ⟨v42.heap.size, 0, none⟩) 1 [0]) := hid (by rw [← hv60]; exact lit_ints v42 [0])
      have hb : Below v42.heap.size v42 v60 := by rw [← hv60]; exact (Below.refl _ _).alloc (Nat.le_refl _) _
      have hS2 := hS.trans (hb.mono hS.size)
      go_simp
      clear hv60
      refine hK.out _ _ (hS2) (fun hS => ?_)
      clear hK K
      try simp only [List.setIfInBounds_toArray, List.set_cons_zero, List.set_cons_succ]
      refine wpAnyH_ready (rs := [59]) (by kernel_rfl) (by simp) ?_
      refine AllReadyH.cons (o := _) rfl (fun K hK => ?_) AllReadyH.nil
      go_simp
      refine (reserved_any 315 _).mono ?_
      rintro e v59 ⟨x59, y59, rfl, h1, h2, _, hb⟩
      have HP59 : Hid (PrgAt v59 (threeP 315 []) (some ⟨x59, 0, none⟩) 2 (some ⟨y59, 0, none⟩) 3 none 0) := hid (three_at h1 h2 (rows_none _))
      replace HL60 := hid (HL60.out.below hb)
      clear h1 h2
      have hS3 := hS.trans (hb.mono hS.size)
      refine hK.out _ _ (hS3) (fun hS => ?_)
      clear hK K
      try simp only [List.setIfInBounds_toArray, List.set_cons_zero, List.set_cons_succ]
      refine wpAnyH_ready (rs := [61]) (by kernel_rfl) (by simp) ?_
      refine AllReadyH.cons (o := _) rfl (fun K hK => ?_) AllReadyH.nil
      go_simp
      refine (prove_any (threeP 315 []) (some ⟨x59, 0, none⟩) 2 2 (some ⟨y59, 0, none⟩) 3 3 none 0 0 _ 1 1 [0] 49 _ HP59.out HL60.out (by decide)).mono ?_
      rintro e v61 ⟨rfl, hb⟩
      rw [nm_prove.1]
      refine hK.out _ _ (hS.trans (hb.mono hS.size)) (fun hS => ?_)
      clear hK K
      try simp only [List.setIfInBounds_toArray, List.set_cons_zero, List.set_cons_succ]
      as_aux_lemma =>
        refine tkH (i := 62) (v := ?_) (fun V hV => ?_) ?_
        rotate_left
        · go_simp
          try with_reducible rfl
        try simp only [Act.put, List.getElem_toArray, List.getElem_cons_zero, List.getElem_cons_succ, List.setIfInBounds_toArray, List.set_cons_zero, List.set_cons_succ]
        refine tkH (i := 63) (v := ?_) (fun V hV => ?_) ?_
        rotate_left
        · go_simp
          try with_reducible rfl
        try simp only [Act.put, List.getElem_toArray, List.getElem_cons_zero, List.getElem_cons_succ, List.setIfInBounds_toArray, List.set_cons_zero, List.set_cons_succ]
        refine wpAnyH_ready (rs := [64, 65]) (by kernel_rfl) (by simp) ?_
        refine AllReadyH.cons (o := _) rfl (fun K hK => ?_) ?_
        · skip
          go_simp
          refine (reserved_any 314 _).mono ?_
          rintro e v64 ⟨x64, y64, rfl, h1, h2, _, hb⟩
          have HP64 : Hid (PrgAt v64 (threeP 314 []) (some ⟨x64, 0, none⟩) 2 (some ⟨y64, 0, none⟩) 3 none 0) := hid (three_at h1 h2 (rows_none _))
          clear h1 h2
          have hS3 := hS.trans (hb.mono hS.size)
          refine hK.out _ _ (hS3) (fun hS => ?_)
          clear hK K
          try simp only [List.setIfInBounds_toArray, List.set_cons_zero, List.set_cons_succ]
          refine wpAnyH_ready (rs := [65]) (by kernel_rfl) (by simp) ?_
          refine AllReadyH.cons (o := _) rfl (fun K hK => ?_) AllReadyH.nil
          obtain ⟨v65, hv65⟩ : ∃ V, v64.alloc (.cells #[.int .i64 0] 3) = V := ⟨_, rfl⟩
          have HL65 : Hid (IntsAt v65 (some ⟨v64.heap.size, 0, none⟩) 1 [0]) := hid (by rw [← hv65]; exact lit_ints v64 [0])
          have hb : Below v64.heap.size v64 v65 := by rw [← hv65]; exact (Below.refl _ _).alloc (Nat.le_refl _) _
          replace HP64 := hid (HP64.out.below hb)
          have hS2 := hS.trans (hb.mono hS.size)
          go_simp
          clear hv65
          refine hK.out _ _ (hS2) (fun hS => ?_)
          clear hK K
          try simp only [List.setIfInBounds_toArray, List.set_cons_zero, List.set_cons_succ]
          refine wpAnyH_ready (rs := [66]) (by kernel_rfl) (by simp) ?_
          refine AllReadyH.cons (o := _) rfl (fun K hK => ?_) AllReadyH.nil
          go_simp
          refine (prove_any (threeP 314 []) (some ⟨x64, 0, none⟩) 2 2 (some ⟨y64, 0, none⟩) 3 3 none 0 0 _ 1 1 [0] 50 _ HP64.out HL65.out (by decide)).mono ?_
          rintro e v66 ⟨rfl, hb⟩
          rw [nm_prove.2.1]
          refine hK.out _ _ (hS.trans (hb.mono hS.size)) (fun hS => ?_)
          clear hK K
          try simp only [List.setIfInBounds_toArray, List.set_cons_zero, List.set_cons_succ]
          refine tkH (i := 67) (v := ?_) (fun V hV => ?_) ?_
          rotate_left
          · go_simp
            try with_reducible rfl
          try simp only [Act.put, List.getElem_toArray, List.getElem_cons_zero, List.getElem_cons_succ, List.setIfInBounds_toArray, List.set_cons_zero, List.set_cons_succ]
          refine tkH (i := 68) (v := ?_) (fun V hV => ?_) ?_
          rotate_left
          · go_simp
            try with_reducible rfl
          try simp only [Act.put, List.getElem_toArray, List.getElem_cons_zero, List.getElem_cons_succ, List.setIfInBounds_toArray, List.set_cons_zero, List.set_cons_succ]
          refine wpAnyH_ready (rs := [69, 70]) (by kernel_rfl) (by simp) ?_
          refine AllReadyH.cons (o := _) rfl (fun K hK => ?_) ?_
          · skip
            go_simp
            refine (reserved_any 315 _).mono ?_
            rintro e v69 ⟨x69, y69, rfl, h1, h2, _, hb⟩
            have HP69 : Hid (PrgAt v69 (threeP 315 []) (some ⟨x69, 0, none⟩) 2 (some ⟨y69, 0, none⟩) 3 none 0) := hid (three_at h1 h2 (rows_none _))
            clear h1 h2
            have hS3 := hS.trans (hb.mono hS.size)
            refine hK.out _ _ (hS3) (fun hS => ?_)
            clear hK K
            try simp only [List.setIfInBounds_toArray, List.set_cons_zero, List.set_cons_succ]
            refine wpAnyH_ready (rs := [70]) (by kernel_rfl) (by simp) ?_
            refine AllReadyH.cons (o := _) rfl (fun K hK => ?_) AllReadyH.nil
            obtain ⟨v70, hv70⟩ : ∃ V, v69.alloc (.cells #[.int .i64 0, .int .i64 2] 3) = V := ⟨_, rfl⟩
            have HL70 : Hid (IntsAt v70 (some ⟨v69.heap.size, 0, none⟩) 2 [0, 2]) := hid (by rw [← hv70]; exact lit_ints v69 [0, 2])
            have hb : Below v69.heap.size v69 v70 := by rw [← hv70]; exact (Below.refl _ _).alloc (Nat.le_refl _) _
            replace HP69 := hid (HP69.out.below hb)
            have hS2 := hS.trans (hb.mono hS.size)
            go_simp
            clear hv70
            refine hK.out _ _ (hS2) (fun hS => ?_)
            clear hK K
            try simp only [List.setIfInBounds_toArray, List.set_cons_zero, List.set_cons_succ]
            refine wpAnyH_ready (rs := [71]) (by kernel_rfl) (by simp) ?_
            refine AllReadyH.cons (o := _) rfl (fun K hK => ?_) AllReadyH.nil
            go_simp
            refine (prove_any (threeP 315 []) (some ⟨x69, 0, none⟩) 2 2 (some ⟨y69, 0, none⟩) 3 3 none 0 0 _ 2 2 [0, 2] 99 _ HP69.out HL70.out (by decide)).mono ?_
            rintro e v71 ⟨rfl, hb⟩
            rw [nm_prove.2.2]
            refine hK.out _ _ (hS.trans (hb.mono hS.size)) (fun hS => ?_)
            clear hK K
            try simp only [List.setIfInBounds_toArray, List.set_cons_zero, List.set_cons_succ]
            refine tkH (i := 72) (v := ?_) (fun V hV => ?_) ?_
            rotate_left
            · go_simp
              try with_reducible rfl
            try simp only [Act.put, List.getElem_toArray, List.getElem_cons_zero, List.getElem_cons_succ, List.setIfInBounds_toArray, List.set_cons_zero, List.set_cons_succ]
            refine wpAnyH_done (by kernel_rfl) ?_ _
            go_wp2
            go_meet
            case rel => exact ⟨rfl, HW.out.trans (hS.mono HW.out.size)⟩
          refine AllReadyH.cons (o := _) rfl (fun K hK => ?_) AllReadyH.nil
          obtain ⟨v70, hv70⟩ : ∃ V, v66.alloc (.cells #[.int .i64 0, .int .i64 2] 3) = V := ⟨_, rfl⟩
          have HL70 : Hid (IntsAt v70 (some ⟨v66.heap.size, 0, none⟩) 2 [0, 2]) := hid (by rw [← hv70]; exact lit_ints v66 [0, 2])
          have hb : Below v66.heap.size v66 v70 := by rw [← hv70]; exact (Below.refl _ _).alloc (Nat.le_refl _) _
          have hS2 := hS.trans (hb.mono hS.size)
          go_simp
          clear hv70
          refine hK.out _ _ (hS2) (fun hS => ?_)
          clear hK K
          try simp only [List.setIfInBounds_toArray, List.set_cons_zero, List.set_cons_succ]
          refine wpAnyH_ready (rs := [69]) (by kernel_rfl) (by simp) ?_
          refine AllReadyH.cons (o := _) rfl (fun K hK => ?_) AllReadyH.nil
          go_simp
          refine (reserved_any 315 _).mono ?_
          rintro e v69 ⟨x69, y69, rfl, h1, h2, _, hb⟩
          have HP69 : Hid (PrgAt v69 (threeP 315 []) (some ⟨x69, 0, none⟩) 2 (some ⟨y69, 0, none⟩) 3 none 0) := hid (three_at h1 h2 (rows_none _))
          replace HL70 := hid (HL70.out.below hb)
          clear h1 h2
          have hS3 := hS.trans (hb.mono hS.size)
          refine hK.out _ _ (hS3) (fun hS => ?_)
          clear hK K
          try simp only [List.setIfInBounds_toArray, List.set_cons_zero, List.set_cons_succ]
          refine wpAnyH_ready (rs := [71]) (by kernel_rfl) (by simp) ?_
          refine AllReadyH.cons (o := _) rfl (fun K hK => ?_) AllReadyH.nil
          go_simp
          refine (prove_any (threeP 315 []) (some ⟨x69, 0, none⟩) 2 2 (some ⟨y69, 0, none⟩) 3 3 none 0 0 _ 2 2 [0, 2] 99 _ HP69.out HL70.out (by decide)).mono ?_
          rintro e v71 ⟨rfl, hb⟩
          rw [nm_prove.2.2]
          refine hK.out _ _ (hS.trans (hb.mono hS.size)) (fun hS => ?_)
          clear hK K
          try simp only [List.setIfInBounds_toArray, List.set_cons_zero, List.set_cons_succ]
          refine tkH (i := 72) (v := ?_) (fun V hV => ?_) ?_
          rotate_left
          · go_simp
            try with_reducible rfl
          try simp only [Act.put, List.getElem_toArray, List.getElem_cons_zero, List.getElem_cons_succ, List.setIfInBounds_toArray, List.set_cons_zero, List.set_cons_succ]
          refine wpAnyH_done (by kernel_rfl) ?_ _
          go_wp2
          go_meet
          case rel => exact ⟨rfl, HW.out.trans (hS.mono HW.out.size)⟩
        refine AllReadyH.cons (o := _) rfl (fun K hK => ?_) AllReadyH.nil
        obtain ⟨v65, hv65⟩ : ∃ V, v61.alloc (.cells #[.int .i64 0] 3) = V := ⟨_, rfl⟩
        have HL65 : Hid (IntsAt v65 (some ⟨v61.heap.size, 0, none⟩) 1 [0]) := hid (by rw [← hv65]; exact lit_ints v61 [0])
        have hb : Below v61.heap.size v61 v65 := by rw [← hv65]; exact (Below.refl _ _).alloc (Nat.le_refl _) _
        have hS2 := hS.trans (hb.mono hS.size)
        go_simp
        clear hv65
        refine hK.out _ _ (hS2) (fun hS => ?_)
        clear hK K
        try simp only [List.setIfInBounds_toArray, List.set_cons_zero, List.set_cons_succ]
        refine wpAnyH_ready (rs := [64]) (by kernel_rfl) (by simp) ?_
        refine AllReadyH.cons (o := _) rfl (fun K hK => ?_) AllReadyH.nil
        go_simp
        refine (reserved_any 314 _).mono ?_
        rintro e v64 ⟨x64, y64, rfl, h1, h2, _, hb⟩
        have HP64 : Hid (PrgAt v64 (threeP 314 []) (some ⟨x64, 0, none⟩) 2 (some ⟨y64, 0, none⟩) 3 none 0) := hid (three_at h1 h2 (rows_none _))
        replace HL65 := hid (HL65.out.below hb)
        clear h1 h2
        have hS3 := hS.trans (hb.mono hS.size)
        refine hK.out _ _ (hS3) (fun hS => ?_)
        clear hK K
        try simp only [List.setIfInBounds_toArray, List.set_cons_zero, List.set_cons_succ]
        refine wpAnyH_ready (rs := [66]) (by kernel_rfl) (by simp) ?_
        refine AllReadyH.cons (o := _) rfl (fun K hK => ?_) AllReadyH.nil
        go_simp
        refine (prove_any (threeP 314 []) (some ⟨x64, 0, none⟩) 2 2 (some ⟨y64, 0, none⟩) 3 3 none 0 0 _ 1 1 [0] 50 _ HP64.out HL65.out (by decide)).mono ?_
        rintro e v66 ⟨rfl, hb⟩
        rw [nm_prove.2.1]
        refine hK.out _ _ (hS.trans (hb.mono hS.size)) (fun hS => ?_)
        clear hK K
        try simp only [List.setIfInBounds_toArray, List.set_cons_zero, List.set_cons_succ]
        as_aux_lemma =>
          refine tkH (i := 67) (v := ?_) (fun V hV => ?_) ?_
          rotate_left
          · go_simp
            try with_reducible rfl
          try simp only [Act.put, List.getElem_toArray, List.getElem_cons_zero, List.getElem_cons_succ, List.setIfInBounds_toArray, List.set_cons_zero, List.set_cons_succ]
          as_aux_lemma =>
            refine tkH (i := 68) (v := ?_) (fun V hV => ?_) ?_
            rotate_left
            · go_simp
              try with_reducible rfl
            try simp only [Act.put, List.getElem_toArray, List.getElem_cons_zero, List.getElem_cons_succ, List.setIfInBounds_toArray, List.set_cons_zero, List.set_cons_succ]
            refine wpAnyH_ready (rs := [69, 70]) (by kernel_rfl) (by simp) ?_
            refine AllReadyH.cons (o := _) rfl (fun K hK => ?_) ?_
            · skip
              go_simp
              refine (reserved_any 315 _).mono ?_
              rintro e v69 ⟨x69, y69, rfl, h1, h2, _, hb⟩
              have HP69 : Hid (PrgAt v69 (threeP 315 []) (some ⟨x69, 0, none⟩) 2 (some ⟨y69, 0, none⟩) 3 none 0) := hid (three_at h1 h2 (rows_none _))
              clear h1 h2
              have hS3 := hS.trans (hb.mono hS.size)
              refine hK.out _ _ (hS3) (fun hS => ?_)
              clear hK K
              try simp only [List.setIfInBounds_toArray, List.set_cons_zero, List.set_cons_succ]
              refine wpAnyH_ready (rs := [70]) (by kernel_rfl) (by simp) ?_
              refine AllReadyH.cons (o := _) rfl (fun K hK => ?_) AllReadyH.nil
              obtain ⟨v70, hv70⟩ : ∃ V, v69.alloc (.cells #[.int .i64 0, .int .i64 2] 3) = V := ⟨_, rfl⟩
              have HL70 : Hid (IntsAt v70 (some ⟨v69.heap.size, 0, none⟩) 2 [0, 2]) := hid (by rw [← hv70]; exact lit_ints v69 [0, 2])
              have hb : Below v69.heap.size v69 v70 := by rw [← hv70]; exact (Below.refl _ _).alloc (Nat.le_refl _) _
              replace HP69 := hid (HP69.out.below hb)
              have hS2 := hS.trans (hb.mono hS.size)
              go_simp
              clear hv70
              refine hK.out _ _ (hS2) (fun hS => ?_)
              clear hK K
              try simp only [List.setIfInBounds_toArray, List.set_cons_zero, List.set_cons_succ]
              refine wpAnyH_ready (rs := [71]) (by kernel_rfl) (by simp) ?_
              refine AllReadyH.cons (o := _) rfl (fun K hK => ?_) AllReadyH.nil
              go_simp
              refine (prove_any (threeP 315 []) (some ⟨x69, 0, none⟩) 2 2 (some ⟨y69, 0, none⟩) 3 3 none 0 0 _ 2 2 [0, 2] 99 _ HP69.out HL70.out (by decide)).mono ?_
              rintro e v71 ⟨rfl, hb⟩
              rw [nm_prove.2.2]
              refine hK.out _ _ (hS.trans (hb.mono hS.size)) (fun hS => ?_)
              clear hK K
              try simp only [List.setIfInBounds_toArray, List.set_cons_zero, List.set_cons_succ]
              refine tkH (i := 72) (v := ?_) (fun V hV => ?_) ?_
              rotate_left
              · go_simp
                try with_reducible rfl
              try simp only [Act.put, List.getElem_toArray, List.getElem_cons_zero, List.getElem_cons_succ, List.setIfInBounds_toArray, List.set_cons_zero, List.set_cons_succ]
              refine wpAnyH_done (by kernel_rfl) ?_ _
              go_wp2
              go_meet
              case rel => exact ⟨rfl, HW.out.trans (hS.mono HW.out.size)⟩
            refine AllReadyH.cons (o := _) rfl (fun K hK => ?_) AllReadyH.nil
            obtain ⟨v70, hv70⟩ : ∃ V, v66.alloc (.cells #[.int .i64 0, .int .i64 2] 3) = V := ⟨_, rfl⟩
            have HL70 : Hid (IntsAt v70 (some ⟨v66.heap.size, 0, none⟩) 2 [0, 2]) := hid (by rw [← hv70]; exact lit_ints v66 [0, 2])
            have hb : Below v66.heap.size v66 v70 := by rw [← hv70]; exact (Below.refl _ _).alloc (Nat.le_refl _) _
            have hS2 := hS.trans (hb.mono hS.size)
            go_simp
            clear hv70
            refine hK.out _ _ (hS2) (fun hS => ?_)
            clear hK K
            try simp only [List.setIfInBounds_toArray, List.set_cons_zero, List.set_cons_succ]
            refine wpAnyH_ready (rs := [69]) (by kernel_rfl) (by simp) ?_
            refine AllReadyH.cons (o := _) rfl (fun K hK => ?_) AllReadyH.nil
            go_simp
            refine (reserved_any 315 _).mono ?_
            rintro e v69 ⟨x69, y69, rfl, h1, h2, _, hb⟩
            have HP69 : Hid (PrgAt v69 (threeP 315 []) (some ⟨x69, 0, none⟩) 2 (some ⟨y69, 0, none⟩) 3 none 0) := hid (three_at h1 h2 (rows_none _))
            replace HL70 := hid (HL70.out.below hb)
            clear h1 h2
            have hS3 := hS.trans (hb.mono hS.size)
            refine hK.out _ _ (hS3) (fun hS => ?_)
            clear hK K
            try simp only [List.setIfInBounds_toArray, List.set_cons_zero, List.set_cons_succ]
            refine wpAnyH_ready (rs := [71]) (by kernel_rfl) (by simp) ?_
            refine AllReadyH.cons (o := _) rfl (fun K hK => ?_) AllReadyH.nil
            go_simp
            refine (prove_any (threeP 315 []) (some ⟨x69, 0, none⟩) 2 2 (some ⟨y69, 0, none⟩) 3 3 none 0 0 _ 2 2 [0, 2] 99 _ HP69.out HL70.out (by decide)).mono ?_
            rintro e v71 ⟨rfl, hb⟩
            rw [nm_prove.2.2]
            refine hK.out _ _ (hS.trans (hb.mono hS.size)) (fun hS => ?_)
            clear hK K
            try simp only [List.setIfInBounds_toArray, List.set_cons_zero, List.set_cons_succ]
            refine tkH (i := 72) (v := ?_) (fun V hV => ?_) ?_
            rotate_left
            · go_simp
              try with_reducible rfl
            try simp only [Act.put, List.getElem_toArray, List.getElem_cons_zero, List.getElem_cons_succ, List.setIfInBounds_toArray, List.set_cons_zero, List.set_cons_succ]
            refine wpAnyH_done (by kernel_rfl) ?_ _
            go_wp2
            go_meet
            case rel => exact ⟨rfl, HW.out.trans (hS.mono HW.out.size)⟩
  case rest =>
    obtain ⟨rfl, hbw⟩ := hcut
    clear HW HI1 HX HI3 HI4
    have HW := hid hbw
    clear hbw
    obtain ⟨w1, hw1⟩ : ∃ V, V = wc := ⟨_, rfl⟩
    subst hw1
    go_wp2_with fail
    refine (three_any none 0 0 _).mono ?_
    rintro e w1 ⟨b1, b2, rfl, h1, h2, _, hb⟩
    have HW := hid (HW.out.trans (hb.mono HW.out.size))
    have HP : Hid (PrgAt w1 (threeP 200 []) (some ⟨b1, 0, none⟩) 2 (some ⟨b2, 0, none⟩) 3 none 0) := hid (three_at h1 h2 (rows_none _))
    clear h1 h2 hb
    have hba : Below w1.heap.size w1 (w1.alloc (.cells #[.int .i64 99, .int .i64 300] 3)) := (Below.refl _ _).alloc (Nat.le_refl _) _
    have HP := hid (HP.out.below hba)
    have HLI : Hid (IntsAt (w1.alloc (.cells #[.int .i64 99, .int .i64 300] 3)) (some ⟨w1.heap.size, 0, none⟩) 2 [99, 300]) := hid (lit_ints w1 [99, 300])
    go_wp2_with fail
    refine (play_any (threeP 200 []) (some ⟨b1, 0, none⟩) 2 2 (some ⟨b2, 0, none⟩) 3 3 none 0 0 (some ⟨w1.heap.size, 0, none⟩) 2 2 [99, 300] _ HP.out HLI.out (by decide)).mono ?_
    rintro e w2 ⟨v, rfl, hown, hb⟩
    replace hb := hba.trans (hb.mono (by simp))
    have HW := hid (HW.out.trans (hb.mono HW.out.size))
    rw [nm_pl2.1]
    clear hown
    clear hb hba HP HLI
    obtain ⟨w1, hw1⟩ : ∃ V, V = w2 := ⟨_, rfl⟩
    subst hw1
    go_wp2_with fail
    refine (three_any none 0 0 _).mono ?_
    rintro e w1 ⟨b1, b2, rfl, h1, h2, _, hb⟩
    have HW := hid (HW.out.trans (hb.mono HW.out.size))
    have HP : Hid (PrgAt w1 (threeP 200 []) (some ⟨b1, 0, none⟩) 2 (some ⟨b2, 0, none⟩) 3 none 0) := hid (three_at h1 h2 (rows_none _))
    clear h1 h2 hb
    have hba : Below w1.heap.size w1 (w1.alloc (.cells #[.int .i64 100] 3)) := (Below.refl _ _).alloc (Nat.le_refl _) _
    have HP := hid (HP.out.below hba)
    have HLI : Hid (IntsAt (w1.alloc (.cells #[.int .i64 100] 3)) (some ⟨w1.heap.size, 0, none⟩) 1 [100]) := hid (lit_ints w1 [100])
    go_wp2_with fail
    refine (play_any (threeP 200 []) (some ⟨b1, 0, none⟩) 2 2 (some ⟨b2, 0, none⟩) 3 3 none 0 0 (some ⟨w1.heap.size, 0, none⟩) 1 1 [100] _ HP.out HLI.out (by decide)).mono ?_
    rintro e w2 ⟨v, rfl, hown, hb⟩
    replace hb := hba.trans (hb.mono (by simp))
    have HW := hid (HW.out.trans (hb.mono HW.out.size))
    rw [nm_pl2.2]
    clear hown
    clear hb hba HP HLI
    obtain ⟨w1, hw1⟩ : ∃ V, V = w2 := ⟨_, rfl⟩
    subst hw1
    go_wp2_with fail
    refine (three_any none 0 0 _).mono ?_
    rintro e w1 ⟨b1, b2, rfl, h1, h2, _, hb⟩
    have HW := hid (HW.out.trans (hb.mono HW.out.size))
    have HP : Hid (PrgAt w1 (threeP 200 []) (some ⟨b1, 0, none⟩) 2 (some ⟨b2, 0, none⟩) 3 none 0) := hid (three_at h1 h2 (rows_none _))
    clear h1 h2 hb
    have hba : Below w1.heap.size w1 (w1.alloc (.cells #[.int .i64 2] 3)) := (Below.refl _ _).alloc (Nat.le_refl _) _
    have HP := hid (HP.out.below hba)
    have HLI : Hid (IntsAt (w1.alloc (.cells #[.int .i64 2] 3)) (some ⟨w1.heap.size, 0, none⟩) 1 [2]) := hid (lit_ints w1 [2])
    go_wp2_with fail
    refine (kept_any (threeP 200 []) (some ⟨b1, 0, none⟩) 2 2 (some ⟨b2, 0, none⟩) 3 3 none 0 0 (some ⟨w1.heap.size, 0, none⟩) 1 1 [2] _ HP.out HLI.out (by decide)).mono ?_
    rintro e w2 ⟨rfl, hb⟩
    replace hb := hba.trans (hb.mono (by simp))
    have HW := hid (HW.out.trans (hb.mono HW.out.size))
    rw [nm_kp2.1]
    clear hb hba HP HLI
    obtain ⟨w1, hw1⟩ : ∃ V, V = w2 := ⟨_, rfl⟩
    subst hw1
    go_wp2_with fail
    refine (three_any none 0 0 _).mono ?_
    rintro e w1 ⟨b1, b2, rfl, h1, h2, _, hb⟩
    have HW := hid (HW.out.trans (hb.mono HW.out.size))
    have HP : Hid (PrgAt w1 (threeP 200 []) (some ⟨b1, 0, none⟩) 2 (some ⟨b2, 0, none⟩) 3 none 0) := hid (three_at h1 h2 (rows_none _))
    clear h1 h2 hb
    have hba : Below w1.heap.size w1 (w1.alloc (.cells #[.int .i64 1, .int .i64 0] 3)) := (Below.refl _ _).alloc (Nat.le_refl _) _
    have HP := hid (HP.out.below hba)
    have HLI : Hid (IntsAt (w1.alloc (.cells #[.int .i64 1, .int .i64 0] 3)) (some ⟨w1.heap.size, 0, none⟩) 2 [1, 0]) := hid (lit_ints w1 [1, 0])
    go_wp2_with fail
    refine (kept_any (threeP 200 []) (some ⟨b1, 0, none⟩) 2 2 (some ⟨b2, 0, none⟩) 3 3 none 0 0 (some ⟨w1.heap.size, 0, none⟩) 2 2 [1, 0] _ HP.out HLI.out (by decide)).mono ?_
    rintro e w2 ⟨rfl, hb⟩
    replace hb := hba.trans (hb.mono (by simp))
    have HW := hid (HW.out.trans (hb.mono HW.out.size))
    rw [nm_kp2.2]
    clear hb hba HP HLI
    obtain ⟨w1, hw1⟩ : ∃ V, V = w2 := ⟨_, rfl⟩
    subst hw1
    go_wp2_with fail
    refine (three_any none 0 0 _).mono ?_
    rintro e w1 ⟨b1, b2, rfl, h1, h2, _, hb⟩
    have HW := hid (HW.out.trans (hb.mono HW.out.size))
    have HP : Hid (PrgAt w1 (threeP 200 []) (some ⟨b1, 0, none⟩) 2 (some ⟨b2, 0, none⟩) 3 none 0) := hid (three_at h1 h2 (rows_none _))
    clear h1 h2 hb
    go_wp2_with fail
    refine (cheapest_any (threeP 200 []) (some ⟨b1, 0, none⟩) 2 2 (some ⟨b2, 0, none⟩) 3 3 none 0 0 _ HP.out).mono ?_
    rintro e w1 ⟨q6, k6, d6, rfl, hi, hb⟩
    have HW := hid (HW.out.trans (hb.mono HW.out.size))
    rw [nm_ch200]
    clear hi hb HP
    go_wp2_with fail
    refine (two_any _).mono ?_
    rintro e w1 ⟨b3, rfl, h3, _, hb⟩
    have HW := hid (HW.out.trans (hb.mono HW.out.size))
    have H3 := hid h3
    clear h3 hb
    go_wp2_with fail
    refine (three_any (some ⟨b3, 0, none⟩) 2 2 _).mono ?_
    rintro e w1 ⟨b1, b2, rfl, h1, h2, _, hb⟩
    have HW := hid (HW.out.trans (hb.mono HW.out.size))
    have HP : Hid (PrgAt w1 (threeP 200 twoR) (some ⟨b1, 0, none⟩) 2 (some ⟨b2, 0, none⟩) 3 (some ⟨b3, 0, none⟩) 2) := hid (three_at h1 h2 (two_at (H3.out.below hb)))
    clear h1 h2 hb H3
    go_wp2_with fail
    refine (bounds_any (threeP 200 twoR) (some ⟨b1, 0, none⟩) 2 2 (some ⟨b2, 0, none⟩) 3 3 (some ⟨b3, 0, none⟩) 2 2 _ HP.out).mono ?_
    rintro e w1 ⟨v, rfl, hown, hb⟩
    have HW := hid (HW.out.trans (hb.mono HW.out.size))
    rw [nm_err]
    clear hown hb HP
    go_wp2_with fail
    refine (three_any none 0 0 _).mono ?_
    rintro e w1 ⟨b1, b2, rfl, h1, h2, _, hb⟩
    have HW := hid (HW.out.trans (hb.mono HW.out.size))
    have HP : Hid (PrgAt w1 (threeP 200 []) (some ⟨b1, 0, none⟩) 2 (some ⟨b2, 0, none⟩) 3 none 0) := hid (three_at h1 h2 (rows_none _))
    clear h1 h2 hb
    go_wp2_with fail
    refine (first_any (threeP 200 []) (some ⟨b1, 0, none⟩) 2 2 (some ⟨b2, 0, none⟩) 3 3 none 0 0 _ HP.out (by decide)).mono ?_
    rintro e w1 ⟨rfl, hb⟩
    have HW := hid (HW.out.trans (hb.mono HW.out.size))
    rw [nm_first]
    clear hb HP
    go_wp2_with fail
    refine (three_any none 0 0 _).mono ?_
    rintro e w1 ⟨l0, t0, rfl, h1, h2, h3, hb⟩
    have HO0 : Hid ((w.heap.size ≤ l0 ∧ w.heap.size ≤ t0 ∧ l0 ≠ t0)) := hid (by have := HW.out.size; omega)
    have HW := hid (HW.out.trans (hb.mono HW.out.size))
    have HL0 := hid h1; have HT0 := hid h2
    unfold lossC at HL0; unfold treC at HT0
    clear h1 h2 h3 hb
    go_wp2_with fail
    refine (three_any none 0 0 _).mono ?_
    rintro e w1 ⟨l1, t1, rfl, h1, h2, h3, hb⟩
    have HO1 : Hid ((w.heap.size ≤ l1 ∧ w.heap.size ≤ t1 ∧ l1 ≠ t1) ∧ l0 < l1 ∧ l0 < t1 ∧ t0 < l1 ∧ t0 < t1) := hid (by have := HW.out.size; have := HL0.out.1; have := HT0.out.1; omega)
    have HW := hid (HW.out.trans (hb.mono HW.out.size))
    replace HL0 := hid (HL0.out.below hb)
    replace HT0 := hid (HT0.out.below hb)
    have HL1 := hid h1; have HT1 := hid h2
    unfold lossC at HL1; unfold treC at HT1
    clear h1 h2 h3 hb
    go_wp2_with fail
    refine (three_any none 0 0 _).mono ?_
    rintro e w1 ⟨l2, t2, rfl, h1, h2, h3, hb⟩
    have HO2 : Hid ((w.heap.size ≤ l2 ∧ w.heap.size ≤ t2 ∧ l2 ≠ t2) ∧ l1 < l2 ∧ l1 < t2 ∧ t1 < l2 ∧ t1 < t2) := hid (by have := HW.out.size; have := HL1.out.1; have := HT1.out.1; omega)
    have HW := hid (HW.out.trans (hb.mono HW.out.size))
    replace HL0 := hid (HL0.out.below hb)
    replace HT0 := hid (HT0.out.below hb)
    replace HL1 := hid (HL1.out.below hb)
    replace HT1 := hid (HT1.out.below hb)
    have HL2 := hid h1; have HT2 := hid h2
    unfold lossC at HL2; unfold treC at HT2
    clear h1 h2 h3 hb
    go_wp2_with fail
    refine (three_any none 0 0 _).mono ?_
    rintro e w1 ⟨l3, t3, rfl, h1, h2, h3, hb⟩
    have HO3 : Hid ((w.heap.size ≤ l3 ∧ w.heap.size ≤ t3 ∧ l3 ≠ t3) ∧ l2 < l3 ∧ l2 < t3 ∧ t2 < l3 ∧ t2 < t3) := hid (by have := HW.out.size; have := HL2.out.1; have := HT2.out.1; omega)
    have HW := hid (HW.out.trans (hb.mono HW.out.size))
    replace HL0 := hid (HL0.out.below hb)
    replace HT0 := hid (HT0.out.below hb)
    replace HL1 := hid (HL1.out.below hb)
    replace HT1 := hid (HT1.out.below hb)
    replace HL2 := hid (HL2.out.below hb)
    replace HT2 := hid (HT2.out.below hb)
    have HL3 := hid h1; have HT3 := hid h2
    unfold lossC at HL3; unfold treC at HT3
    clear h1 h2 h3 hb
    go_wp2_with fail
    refine (three_any none 0 0 _).mono ?_
    rintro e w1 ⟨l4, t4, rfl, h1, h2, h3, hb⟩
    have HO4 : Hid ((w.heap.size ≤ l4 ∧ w.heap.size ≤ t4 ∧ l4 ≠ t4) ∧ l3 < l4 ∧ l3 < t4 ∧ t3 < l4 ∧ t3 < t4) := hid (by have := HW.out.size; have := HL3.out.1; have := HT3.out.1; omega)
    have HW := hid (HW.out.trans (hb.mono HW.out.size))
    replace HL0 := hid (HL0.out.below hb)
    replace HT0 := hid (HT0.out.below hb)
    replace HL1 := hid (HL1.out.below hb)
    replace HT1 := hid (HT1.out.below hb)
    replace HL2 := hid (HL2.out.below hb)
    replace HT2 := hid (HT2.out.below hb)
    replace HL3 := hid (HL3.out.below hb)
    replace HT3 := hid (HT3.out.below hb)
    have HL4 := hid h1; have HT4 := hid h2
    unfold lossC at HL4; unfold treC at HT4
    clear h1 h2 h3 hb
    go_wp2_with fail
    refine (two_any _).mono ?_
    rintro e w1 ⟨b3, rfl, h3, h4, hb⟩
    have HO9 : Hid (l4 < b3 ∧ t4 < b3 ∧ w.heap.size ≤ b3) := hid (by have := HW.out.size; have := HL4.out.1; have := HT4.out.1; omega)
    have HW := hid (HW.out.trans (hb.mono HW.out.size))
    replace HL0 := hid (HL0.out.below hb)
    replace HT0 := hid (HT0.out.below hb)
    replace HL1 := hid (HL1.out.below hb)
    replace HT1 := hid (HT1.out.below hb)
    replace HL2 := hid (HL2.out.below hb)
    replace HT2 := hid (HT2.out.below hb)
    replace HL3 := hid (HL3.out.below hb)
    replace HT3 := hid (HT3.out.below hb)
    replace HL4 := hid (HL4.out.below hb)
    replace HT4 := hid (HT4.out.below hb)
    have HR3 := hid h3
    unfold twoC at HR3
    clear h3 h4 hb
    go_wp2_with fail
    refine (three_any (some ⟨b3, 0, none⟩) 2 2 _).mono ?_
    rintro e w1 ⟨l5, t5, rfl, h1, h2, h3, hb⟩
    have HO5 : Hid ((w.heap.size ≤ l5 ∧ w.heap.size ≤ t5 ∧ l5 ≠ t5) ∧ b3 < l5 ∧ b3 < t5) := hid (by have := HW.out.size; have := HR3.out.1; omega)
    have HW := hid (HW.out.trans (hb.mono HW.out.size))
    replace HL0 := hid (HL0.out.below hb)
    replace HT0 := hid (HT0.out.below hb)
    replace HL1 := hid (HL1.out.below hb)
    replace HT1 := hid (HT1.out.below hb)
    replace HL2 := hid (HL2.out.below hb)
    replace HT2 := hid (HT2.out.below hb)
    replace HL3 := hid (HL3.out.below hb)
    replace HT3 := hid (HT3.out.below hb)
    replace HL4 := hid (HL4.out.below hb)
    replace HT4 := hid (HT4.out.below hb)
    replace HR3 := hid (HR3.out.below hb)
    have HL5 := hid h1; have HT5 := hid h2
    unfold lossC at HL5; unfold treC at HT5
    clear h1 h2 h3 hb
    go_wp2_with fail
    refine (three_any none 0 0 _).mono ?_
    rintro e w1 ⟨l6, t6, rfl, h1, h2, h3, hb⟩
    have HO6 : Hid ((w.heap.size ≤ l6 ∧ w.heap.size ≤ t6 ∧ l6 ≠ t6) ∧ l5 < l6 ∧ l5 < t6 ∧ t5 < l6 ∧ t5 < t6) := hid (by have := HW.out.size; have := HL5.out.1; have := HT5.out.1; omega)
    have HW := hid (HW.out.trans (hb.mono HW.out.size))
    replace HL0 := hid (HL0.out.below hb)
    replace HT0 := hid (HT0.out.below hb)
    replace HL1 := hid (HL1.out.below hb)
    replace HT1 := hid (HT1.out.below hb)
    replace HL2 := hid (HL2.out.below hb)
    replace HT2 := hid (HT2.out.below hb)
    replace HL3 := hid (HL3.out.below hb)
    replace HT3 := hid (HT3.out.below hb)
    replace HL4 := hid (HL4.out.below hb)
    replace HT4 := hid (HT4.out.below hb)
    replace HR3 := hid (HR3.out.below hb)
    replace HL5 := hid (HL5.out.below hb)
    replace HT5 := hid (HT5.out.below hb)
    have HL6 := hid h1; have HT6 := hid h2
    unfold lossC at HL6; unfold treC at HT6
    clear h1 h2 h3 hb
    go_wp2_with fail
    refine (three_any none 0 0 _).mono ?_
    rintro e w1 ⟨l7, t7, rfl, h1, h2, h3, hb⟩
    have HO7 : Hid ((w.heap.size ≤ l7 ∧ w.heap.size ≤ t7 ∧ l7 ≠ t7) ∧ l6 < l7 ∧ l6 < t7 ∧ t6 < l7 ∧ t6 < t7) := hid (by have := HW.out.size; have := HL6.out.1; have := HT6.out.1; omega)
    have HW := hid (HW.out.trans (hb.mono HW.out.size))
    replace HL0 := hid (HL0.out.below hb)
    replace HT0 := hid (HT0.out.below hb)
    replace HL1 := hid (HL1.out.below hb)
    replace HT1 := hid (HT1.out.below hb)
    replace HL2 := hid (HL2.out.below hb)
    replace HT2 := hid (HT2.out.below hb)
    replace HL3 := hid (HL3.out.below hb)
    replace HT3 := hid (HT3.out.below hb)
    replace HL4 := hid (HL4.out.below hb)
    replace HT4 := hid (HT4.out.below hb)
    replace HR3 := hid (HR3.out.below hb)
    replace HL5 := hid (HL5.out.below hb)
    replace HT5 := hid (HT5.out.below hb)
    replace HL6 := hid (HL6.out.below hb)
    replace HT6 := hid (HT6.out.below hb)
    have HL7 := hid h1; have HT7 := hid h2
    unfold lossC at HL7; unfold treC at HT7
    clear h1 h2 h3 hb
    obtain ⟨N, hN⟩ : ∃ N, w1.heap.size = N := ⟨_, rfl⟩
    have HLN : Hid (w.heap.size ≤ N ∧ l7 < N ∧ t7 < N) := hid (by rw [← hN]; exact ⟨HW.out.size, HL7.out.1, HT7.out.1⟩)
    obtain ⟨W3, hW3⟩ : ∃ V, ((((((((w1.alloc (.cells #[.slice none 0 0, .int .i64 0, .slice none 0 0, .slice none 0 0] 37)).alloc (.cells #[.slice none 0 0, .int .i64 0, .slice none 0 0, .slice none 0 0] 37)).alloc (.cells #[.slice none 0 0, .int .i64 0, .slice none 0 0, .slice none 0 0] 37)).alloc (.cells #[.slice none 0 0, .int .i64 0, .slice none 0 0, .slice none 0 0] 37)).alloc (.cells #[.slice none 0 0, .int .i64 0, .slice none 0 0, .slice none 0 0] 37)).alloc (.cells #[.slice none 0 0, .int .i64 0, .slice none 0 0, .slice none 0 0] 37)).alloc (.cells #[.slice none 0 0, .int .i64 0, .slice none 0 0, .slice none 0 0] 37)).alloc (.cells #[.slice none 0 0, .int .i64 0, .slice none 0 0, .slice none 0 0] 37)) = V := ⟨_, rfl⟩
    obtain ⟨z0, z1, z2, z3, z4, z5, z6, z7, hb⟩ := eight_boxes hW3
    rw [hN] at z0 z1 z2 z3 z4 z5 z6 z7
    have HB0 := hid z0
    have HB1 := hid z1
    have HB2 := hid z2
    have HB3 := hid z3
    have HB4 := hid z4
    have HB5 := hid z5
    have HB6 := hid z6
    have HB7 := hid z7
    have HW := hid (HW.out.trans (hb.mono HW.out.size))
    replace HL0 := hid (HL0.out.below hb)
    replace HT0 := hid (HT0.out.below hb)
    replace HL1 := hid (HL1.out.below hb)
    replace HT1 := hid (HT1.out.below hb)
    replace HL2 := hid (HL2.out.below hb)
    replace HT2 := hid (HT2.out.below hb)
    replace HL3 := hid (HL3.out.below hb)
    replace HT3 := hid (HT3.out.below hb)
    replace HL4 := hid (HL4.out.below hb)
    replace HT4 := hid (HT4.out.below hb)
    replace HR3 := hid (HR3.out.below hb)
    replace HL5 := hid (HL5.out.below hb)
    replace HT5 := hid (HT5.out.below hb)
    replace HL6 := hid (HL6.out.below hb)
    replace HT6 := hid (HT6.out.below hb)
    replace HL7 := hid (HL7.out.below hb)
    replace HT7 := hid (HT7.out.below hb)
    clear z0 z1 z2 z3 z4 z5 z6 z7 hb
    have HDI := hid (And.intro HLN.out (And.intro HO9.out (And.intro HO0.out (And.intro HO1.out (And.intro HO2.out (And.intro HO3.out (And.intro HO4.out (And.intro HO5.out (And.intro HO6.out HO7.out)))))))))
    clear HO0 HO1 HO2 HO3 HO4 HO5 HO6 HO7 HO9 HLN
    go_upto_region 16 with (first | (refine store_box (by rfl) 37 (.tmp 18) (.tmp 173) (by rfl) N #[.slice none 0 0, .int .i64 0, .slice none 0 0, .slice none 0 0] #[.slice (some ⟨l0, 0, none⟩) 2 2, .int .i64 200, .slice (some ⟨t0, 0, none⟩) 3 3, .slice none 0 0] (by rfl) (by rfl) HB0.out 4 rfl rfl (by kernel_rfl) (by simp [Value.oneCell']) ?_; intro wx hx hn; replace HB0 := hid hx; replace HL0 := hid (HL0.out.far hn (by have := HDI.out; omega)); replace HT0 := hid (HT0.out.far hn (by have := HDI.out; omega)); replace HL1 := hid (HL1.out.far hn (by have := HDI.out; omega)); replace HT1 := hid (HT1.out.far hn (by have := HDI.out; omega)); replace HL2 := hid (HL2.out.far hn (by have := HDI.out; omega)); replace HT2 := hid (HT2.out.far hn (by have := HDI.out; omega)); replace HL3 := hid (HL3.out.far hn (by have := HDI.out; omega)); replace HT3 := hid (HT3.out.far hn (by have := HDI.out; omega)); replace HL4 := hid (HL4.out.far hn (by have := HDI.out; omega)); replace HT4 := hid (HT4.out.far hn (by have := HDI.out; omega)); replace HR3 := hid (HR3.out.far hn (by have := HDI.out; omega)); replace HL5 := hid (HL5.out.far hn (by have := HDI.out; omega)); replace HT5 := hid (HT5.out.far hn (by have := HDI.out; omega)); replace HL6 := hid (HL6.out.far hn (by have := HDI.out; omega)); replace HT6 := hid (HT6.out.far hn (by have := HDI.out; omega)); replace HL7 := hid (HL7.out.far hn (by have := HDI.out; omega)); replace HT7 := hid (HT7.out.far hn (by have := HDI.out; omega)); replace HB1 := hid (HB1.out.far hn (by have := HDI.out; omega)); replace HB2 := hid (HB2.out.far hn (by have := HDI.out; omega)); replace HB3 := hid (HB3.out.far hn (by have := HDI.out; omega)); replace HB4 := hid (HB4.out.far hn (by have := HDI.out; omega)); replace HB5 := hid (HB5.out.far hn (by have := HDI.out; omega)); replace HB6 := hid (HB6.out.far hn (by have := HDI.out; omega)); replace HB7 := hid (HB7.out.far hn (by have := HDI.out; omega)); have HWx := hid (HW.out.trans (hn.below HW.out.size (fun i hi h9 => by have := HDI.out; omega))); clear HW; have HW := HWx; clear HWx hx hn) | (refine store_box (by rfl) 37 (.tmp 19) (.tmp 174) (by rfl) (N + 1) #[.slice none 0 0, .int .i64 0, .slice none 0 0, .slice none 0 0] #[.slice (some ⟨l1, 0, none⟩) 2 2, .int .i64 200, .slice (some ⟨t1, 0, none⟩) 3 3, .slice none 0 0] (by rfl) (by rfl) HB1.out 4 rfl rfl (by kernel_rfl) (by simp [Value.oneCell']) ?_; intro wx hx hn; replace HB1 := hid hx; replace HL0 := hid (HL0.out.far hn (by have := HDI.out; omega)); replace HT0 := hid (HT0.out.far hn (by have := HDI.out; omega)); replace HL1 := hid (HL1.out.far hn (by have := HDI.out; omega)); replace HT1 := hid (HT1.out.far hn (by have := HDI.out; omega)); replace HL2 := hid (HL2.out.far hn (by have := HDI.out; omega)); replace HT2 := hid (HT2.out.far hn (by have := HDI.out; omega)); replace HL3 := hid (HL3.out.far hn (by have := HDI.out; omega)); replace HT3 := hid (HT3.out.far hn (by have := HDI.out; omega)); replace HL4 := hid (HL4.out.far hn (by have := HDI.out; omega)); replace HT4 := hid (HT4.out.far hn (by have := HDI.out; omega)); replace HR3 := hid (HR3.out.far hn (by have := HDI.out; omega)); replace HL5 := hid (HL5.out.far hn (by have := HDI.out; omega)); replace HT5 := hid (HT5.out.far hn (by have := HDI.out; omega)); replace HL6 := hid (HL6.out.far hn (by have := HDI.out; omega)); replace HT6 := hid (HT6.out.far hn (by have := HDI.out; omega)); replace HL7 := hid (HL7.out.far hn (by have := HDI.out; omega)); replace HT7 := hid (HT7.out.far hn (by have := HDI.out; omega)); replace HB0 := hid (HB0.out.far hn (by have := HDI.out; omega)); replace HB2 := hid (HB2.out.far hn (by have := HDI.out; omega)); replace HB3 := hid (HB3.out.far hn (by have := HDI.out; omega)); replace HB4 := hid (HB4.out.far hn (by have := HDI.out; omega)); replace HB5 := hid (HB5.out.far hn (by have := HDI.out; omega)); replace HB6 := hid (HB6.out.far hn (by have := HDI.out; omega)); replace HB7 := hid (HB7.out.far hn (by have := HDI.out; omega)); have HWx := hid (HW.out.trans (hn.below HW.out.size (fun i hi h9 => by have := HDI.out; omega))); clear HW; have HW := HWx; clear HWx hx hn) | (refine store_box (by rfl) 37 (.tmp 20) (.tmp 175) (by rfl) (N + 2) #[.slice none 0 0, .int .i64 0, .slice none 0 0, .slice none 0 0] #[.slice (some ⟨l2, 0, none⟩) 2 2, .int .i64 200, .slice (some ⟨t2, 0, none⟩) 3 3, .slice none 0 0] (by rfl) (by rfl) HB2.out 4 rfl rfl (by kernel_rfl) (by simp [Value.oneCell']) ?_; intro wx hx hn; replace HB2 := hid hx; replace HL0 := hid (HL0.out.far hn (by have := HDI.out; omega)); replace HT0 := hid (HT0.out.far hn (by have := HDI.out; omega)); replace HL1 := hid (HL1.out.far hn (by have := HDI.out; omega)); replace HT1 := hid (HT1.out.far hn (by have := HDI.out; omega)); replace HL2 := hid (HL2.out.far hn (by have := HDI.out; omega)); replace HT2 := hid (HT2.out.far hn (by have := HDI.out; omega)); replace HL3 := hid (HL3.out.far hn (by have := HDI.out; omega)); replace HT3 := hid (HT3.out.far hn (by have := HDI.out; omega)); replace HL4 := hid (HL4.out.far hn (by have := HDI.out; omega)); replace HT4 := hid (HT4.out.far hn (by have := HDI.out; omega)); replace HR3 := hid (HR3.out.far hn (by have := HDI.out; omega)); replace HL5 := hid (HL5.out.far hn (by have := HDI.out; omega)); replace HT5 := hid (HT5.out.far hn (by have := HDI.out; omega)); replace HL6 := hid (HL6.out.far hn (by have := HDI.out; omega)); replace HT6 := hid (HT6.out.far hn (by have := HDI.out; omega)); replace HL7 := hid (HL7.out.far hn (by have := HDI.out; omega)); replace HT7 := hid (HT7.out.far hn (by have := HDI.out; omega)); replace HB0 := hid (HB0.out.far hn (by have := HDI.out; omega)); replace HB1 := hid (HB1.out.far hn (by have := HDI.out; omega)); replace HB3 := hid (HB3.out.far hn (by have := HDI.out; omega)); replace HB4 := hid (HB4.out.far hn (by have := HDI.out; omega)); replace HB5 := hid (HB5.out.far hn (by have := HDI.out; omega)); replace HB6 := hid (HB6.out.far hn (by have := HDI.out; omega)); replace HB7 := hid (HB7.out.far hn (by have := HDI.out; omega)); have HWx := hid (HW.out.trans (hn.below HW.out.size (fun i hi h9 => by have := HDI.out; omega))); clear HW; have HW := HWx; clear HWx hx hn) | (refine store_box (by rfl) 37 (.tmp 21) (.tmp 176) (by rfl) (N + 3) #[.slice none 0 0, .int .i64 0, .slice none 0 0, .slice none 0 0] #[.slice (some ⟨l3, 0, none⟩) 2 2, .int .i64 200, .slice (some ⟨t3, 0, none⟩) 3 3, .slice none 0 0] (by rfl) (by rfl) HB3.out 4 rfl rfl (by kernel_rfl) (by simp [Value.oneCell']) ?_; intro wx hx hn; replace HB3 := hid hx; replace HL0 := hid (HL0.out.far hn (by have := HDI.out; omega)); replace HT0 := hid (HT0.out.far hn (by have := HDI.out; omega)); replace HL1 := hid (HL1.out.far hn (by have := HDI.out; omega)); replace HT1 := hid (HT1.out.far hn (by have := HDI.out; omega)); replace HL2 := hid (HL2.out.far hn (by have := HDI.out; omega)); replace HT2 := hid (HT2.out.far hn (by have := HDI.out; omega)); replace HL3 := hid (HL3.out.far hn (by have := HDI.out; omega)); replace HT3 := hid (HT3.out.far hn (by have := HDI.out; omega)); replace HL4 := hid (HL4.out.far hn (by have := HDI.out; omega)); replace HT4 := hid (HT4.out.far hn (by have := HDI.out; omega)); replace HR3 := hid (HR3.out.far hn (by have := HDI.out; omega)); replace HL5 := hid (HL5.out.far hn (by have := HDI.out; omega)); replace HT5 := hid (HT5.out.far hn (by have := HDI.out; omega)); replace HL6 := hid (HL6.out.far hn (by have := HDI.out; omega)); replace HT6 := hid (HT6.out.far hn (by have := HDI.out; omega)); replace HL7 := hid (HL7.out.far hn (by have := HDI.out; omega)); replace HT7 := hid (HT7.out.far hn (by have := HDI.out; omega)); replace HB0 := hid (HB0.out.far hn (by have := HDI.out; omega)); replace HB1 := hid (HB1.out.far hn (by have := HDI.out; omega)); replace HB2 := hid (HB2.out.far hn (by have := HDI.out; omega)); replace HB4 := hid (HB4.out.far hn (by have := HDI.out; omega)); replace HB5 := hid (HB5.out.far hn (by have := HDI.out; omega)); replace HB6 := hid (HB6.out.far hn (by have := HDI.out; omega)); replace HB7 := hid (HB7.out.far hn (by have := HDI.out; omega)); have HWx := hid (HW.out.trans (hn.below HW.out.size (fun i hi h9 => by have := HDI.out; omega))); clear HW; have HW := HWx; clear HWx hx hn) | (refine store_box (by rfl) 37 (.tmp 22) (.tmp 177) (by rfl) (N + 4) #[.slice none 0 0, .int .i64 0, .slice none 0 0, .slice none 0 0] #[.slice (some ⟨l4, 0, none⟩) 2 2, .int .i64 200, .slice (some ⟨t4, 0, none⟩) 3 3, .slice none 0 0] (by rfl) (by rfl) HB4.out 4 rfl rfl (by kernel_rfl) (by simp [Value.oneCell']) ?_; intro wx hx hn; replace HB4 := hid hx; replace HL0 := hid (HL0.out.far hn (by have := HDI.out; omega)); replace HT0 := hid (HT0.out.far hn (by have := HDI.out; omega)); replace HL1 := hid (HL1.out.far hn (by have := HDI.out; omega)); replace HT1 := hid (HT1.out.far hn (by have := HDI.out; omega)); replace HL2 := hid (HL2.out.far hn (by have := HDI.out; omega)); replace HT2 := hid (HT2.out.far hn (by have := HDI.out; omega)); replace HL3 := hid (HL3.out.far hn (by have := HDI.out; omega)); replace HT3 := hid (HT3.out.far hn (by have := HDI.out; omega)); replace HL4 := hid (HL4.out.far hn (by have := HDI.out; omega)); replace HT4 := hid (HT4.out.far hn (by have := HDI.out; omega)); replace HR3 := hid (HR3.out.far hn (by have := HDI.out; omega)); replace HL5 := hid (HL5.out.far hn (by have := HDI.out; omega)); replace HT5 := hid (HT5.out.far hn (by have := HDI.out; omega)); replace HL6 := hid (HL6.out.far hn (by have := HDI.out; omega)); replace HT6 := hid (HT6.out.far hn (by have := HDI.out; omega)); replace HL7 := hid (HL7.out.far hn (by have := HDI.out; omega)); replace HT7 := hid (HT7.out.far hn (by have := HDI.out; omega)); replace HB0 := hid (HB0.out.far hn (by have := HDI.out; omega)); replace HB1 := hid (HB1.out.far hn (by have := HDI.out; omega)); replace HB2 := hid (HB2.out.far hn (by have := HDI.out; omega)); replace HB3 := hid (HB3.out.far hn (by have := HDI.out; omega)); replace HB5 := hid (HB5.out.far hn (by have := HDI.out; omega)); replace HB6 := hid (HB6.out.far hn (by have := HDI.out; omega)); replace HB7 := hid (HB7.out.far hn (by have := HDI.out; omega)); have HWx := hid (HW.out.trans (hn.below HW.out.size (fun i hi h9 => by have := HDI.out; omega))); clear HW; have HW := HWx; clear HWx hx hn) | (refine store_box (by rfl) 37 (.tmp 23) (.tmp 179) (by rfl) (N + 5) #[.slice none 0 0, .int .i64 0, .slice none 0 0, .slice none 0 0] #[.slice (some ⟨l5, 0, none⟩) 2 2, .int .i64 200, .slice (some ⟨t5, 0, none⟩) 3 3, .slice (some ⟨b3, 0, none⟩) 2 2] (by rfl) (by rfl) HB5.out 4 rfl rfl (by kernel_rfl) (by simp [Value.oneCell']) ?_; intro wx hx hn; replace HB5 := hid hx; replace HL0 := hid (HL0.out.far hn (by have := HDI.out; omega)); replace HT0 := hid (HT0.out.far hn (by have := HDI.out; omega)); replace HL1 := hid (HL1.out.far hn (by have := HDI.out; omega)); replace HT1 := hid (HT1.out.far hn (by have := HDI.out; omega)); replace HL2 := hid (HL2.out.far hn (by have := HDI.out; omega)); replace HT2 := hid (HT2.out.far hn (by have := HDI.out; omega)); replace HL3 := hid (HL3.out.far hn (by have := HDI.out; omega)); replace HT3 := hid (HT3.out.far hn (by have := HDI.out; omega)); replace HL4 := hid (HL4.out.far hn (by have := HDI.out; omega)); replace HT4 := hid (HT4.out.far hn (by have := HDI.out; omega)); replace HR3 := hid (HR3.out.far hn (by have := HDI.out; omega)); replace HL5 := hid (HL5.out.far hn (by have := HDI.out; omega)); replace HT5 := hid (HT5.out.far hn (by have := HDI.out; omega)); replace HL6 := hid (HL6.out.far hn (by have := HDI.out; omega)); replace HT6 := hid (HT6.out.far hn (by have := HDI.out; omega)); replace HL7 := hid (HL7.out.far hn (by have := HDI.out; omega)); replace HT7 := hid (HT7.out.far hn (by have := HDI.out; omega)); replace HB0 := hid (HB0.out.far hn (by have := HDI.out; omega)); replace HB1 := hid (HB1.out.far hn (by have := HDI.out; omega)); replace HB2 := hid (HB2.out.far hn (by have := HDI.out; omega)); replace HB3 := hid (HB3.out.far hn (by have := HDI.out; omega)); replace HB4 := hid (HB4.out.far hn (by have := HDI.out; omega)); replace HB6 := hid (HB6.out.far hn (by have := HDI.out; omega)); replace HB7 := hid (HB7.out.far hn (by have := HDI.out; omega)); have HWx := hid (HW.out.trans (hn.below HW.out.size (fun i hi h9 => by have := HDI.out; omega))); clear HW; have HW := HWx; clear HWx hx hn) | (refine store_box (by rfl) 37 (.tmp 24) (.tmp 180) (by rfl) (N + 6) #[.slice none 0 0, .int .i64 0, .slice none 0 0, .slice none 0 0] #[.slice (some ⟨l6, 0, none⟩) 2 2, .int .i64 200, .slice (some ⟨t6, 0, none⟩) 3 3, .slice none 0 0] (by rfl) (by rfl) HB6.out 4 rfl rfl (by kernel_rfl) (by simp [Value.oneCell']) ?_; intro wx hx hn; replace HB6 := hid hx; replace HL0 := hid (HL0.out.far hn (by have := HDI.out; omega)); replace HT0 := hid (HT0.out.far hn (by have := HDI.out; omega)); replace HL1 := hid (HL1.out.far hn (by have := HDI.out; omega)); replace HT1 := hid (HT1.out.far hn (by have := HDI.out; omega)); replace HL2 := hid (HL2.out.far hn (by have := HDI.out; omega)); replace HT2 := hid (HT2.out.far hn (by have := HDI.out; omega)); replace HL3 := hid (HL3.out.far hn (by have := HDI.out; omega)); replace HT3 := hid (HT3.out.far hn (by have := HDI.out; omega)); replace HL4 := hid (HL4.out.far hn (by have := HDI.out; omega)); replace HT4 := hid (HT4.out.far hn (by have := HDI.out; omega)); replace HR3 := hid (HR3.out.far hn (by have := HDI.out; omega)); replace HL5 := hid (HL5.out.far hn (by have := HDI.out; omega)); replace HT5 := hid (HT5.out.far hn (by have := HDI.out; omega)); replace HL6 := hid (HL6.out.far hn (by have := HDI.out; omega)); replace HT6 := hid (HT6.out.far hn (by have := HDI.out; omega)); replace HL7 := hid (HL7.out.far hn (by have := HDI.out; omega)); replace HT7 := hid (HT7.out.far hn (by have := HDI.out; omega)); replace HB0 := hid (HB0.out.far hn (by have := HDI.out; omega)); replace HB1 := hid (HB1.out.far hn (by have := HDI.out; omega)); replace HB2 := hid (HB2.out.far hn (by have := HDI.out; omega)); replace HB3 := hid (HB3.out.far hn (by have := HDI.out; omega)); replace HB4 := hid (HB4.out.far hn (by have := HDI.out; omega)); replace HB5 := hid (HB5.out.far hn (by have := HDI.out; omega)); replace HB7 := hid (HB7.out.far hn (by have := HDI.out; omega)); have HWx := hid (HW.out.trans (hn.below HW.out.size (fun i hi h9 => by have := HDI.out; omega))); clear HW; have HW := HWx; clear HWx hx hn) | (refine store_box (by rfl) 37 (.tmp 25) (.tmp 181) (by rfl) (N + 7) #[.slice none 0 0, .int .i64 0, .slice none 0 0, .slice none 0 0] #[.slice (some ⟨l7, 0, none⟩) 2 2, .int .i64 200, .slice (some ⟨t7, 0, none⟩) 3 3, .slice none 0 0] (by rfl) (by rfl) HB7.out 4 rfl rfl (by kernel_rfl) (by simp [Value.oneCell']) ?_; intro wx hx hn; replace HB7 := hid hx; replace HL0 := hid (HL0.out.far hn (by have := HDI.out; omega)); replace HT0 := hid (HT0.out.far hn (by have := HDI.out; omega)); replace HL1 := hid (HL1.out.far hn (by have := HDI.out; omega)); replace HT1 := hid (HT1.out.far hn (by have := HDI.out; omega)); replace HL2 := hid (HL2.out.far hn (by have := HDI.out; omega)); replace HT2 := hid (HT2.out.far hn (by have := HDI.out; omega)); replace HL3 := hid (HL3.out.far hn (by have := HDI.out; omega)); replace HT3 := hid (HT3.out.far hn (by have := HDI.out; omega)); replace HL4 := hid (HL4.out.far hn (by have := HDI.out; omega)); replace HT4 := hid (HT4.out.far hn (by have := HDI.out; omega)); replace HR3 := hid (HR3.out.far hn (by have := HDI.out; omega)); replace HL5 := hid (HL5.out.far hn (by have := HDI.out; omega)); replace HT5 := hid (HT5.out.far hn (by have := HDI.out; omega)); replace HL6 := hid (HL6.out.far hn (by have := HDI.out; omega)); replace HT6 := hid (HT6.out.far hn (by have := HDI.out; omega)); replace HL7 := hid (HL7.out.far hn (by have := HDI.out; omega)); replace HT7 := hid (HT7.out.far hn (by have := HDI.out; omega)); replace HB0 := hid (HB0.out.far hn (by have := HDI.out; omega)); replace HB1 := hid (HB1.out.far hn (by have := HDI.out; omega)); replace HB2 := hid (HB2.out.far hn (by have := HDI.out; omega)); replace HB3 := hid (HB3.out.far hn (by have := HDI.out; omega)); replace HB4 := hid (HB4.out.far hn (by have := HDI.out; omega)); replace HB5 := hid (HB5.out.far hn (by have := HDI.out; omega)); replace HB6 := hid (HB6.out.far hn (by have := HDI.out; omega)); have HWx := hid (HW.out.trans (hn.below HW.out.size (fun i hi h9 => by have := HDI.out; omega))); clear HW; have HW := HWx; clear HWx hx hn))
    clear hW3 hN
    have k2 := (HB0.out.2 2 (.slice (some ⟨t0, 0, none⟩) 3 3) rfl).1; have fk2 := (HB0.out.2 2 (.slice (some ⟨t0, 0, none⟩) 3 3) rfl).2
    have d0 := (HT0.out.2 0 (.int .i64 0) rfl).1; have fd0 := (HT0.out.2 0 (.int .i64 0) rfl).2
    go_upto_region 17 with fail
    clear k2 fk2
    clear d0 fd0
    obtain ⟨V16, hV16⟩ : ∃ V, (wx.setCell ⟨t0, 0, none⟩ (.int .i64 2)) = V := ⟨_, rfl⟩
    have hn : Near (fun i => i = t0) wx V16 := by rw [← hV16]; exact ((Near.refl (fun i => i = t0) _).setCell (p := ⟨t0, 0, none⟩) (fun _ => rfl) _)
    replace HT0 : Hid (BoxIs t0 #[.int .i64 2, .int .i64 25, .int .i64 0, .int .i64 0, .int .i64 0, .int .i64 50, .int .i64 (-1), .int .i64 1, .int .i64 0, .int .i64 50, .int .i64 100, .int .i64 0, .int .i64 30, .int .i64 (-1), .int .i64 1, .int .i64 0, .int .i64 20, .int .i64 40, .int .i64 1, .int .i64 5, .int .i64 0] V16) := hid (by rw [← hV16]; exact (HT0.out.put (j := 0) (.int .i64 2)))
    rw [hV16]
    clear hV16
    replace HL0 := hid (HL0.out.far hn (by have := HDI.out; omega))
    replace HL1 := hid (HL1.out.far hn (by have := HDI.out; omega))
    replace HT1 := hid (HT1.out.far hn (by have := HDI.out; omega))
    replace HL2 := hid (HL2.out.far hn (by have := HDI.out; omega))
    replace HT2 := hid (HT2.out.far hn (by have := HDI.out; omega))
    replace HL3 := hid (HL3.out.far hn (by have := HDI.out; omega))
    replace HT3 := hid (HT3.out.far hn (by have := HDI.out; omega))
    replace HL4 := hid (HL4.out.far hn (by have := HDI.out; omega))
    replace HT4 := hid (HT4.out.far hn (by have := HDI.out; omega))
    replace HR3 := hid (HR3.out.far hn (by have := HDI.out; omega))
    replace HL5 := hid (HL5.out.far hn (by have := HDI.out; omega))
    replace HT5 := hid (HT5.out.far hn (by have := HDI.out; omega))
    replace HL6 := hid (HL6.out.far hn (by have := HDI.out; omega))
    replace HT6 := hid (HT6.out.far hn (by have := HDI.out; omega))
    replace HL7 := hid (HL7.out.far hn (by have := HDI.out; omega))
    replace HT7 := hid (HT7.out.far hn (by have := HDI.out; omega))
    replace HB0 := hid (HB0.out.far hn (by have := HDI.out; omega))
    replace HB1 := hid (HB1.out.far hn (by have := HDI.out; omega))
    replace HB2 := hid (HB2.out.far hn (by have := HDI.out; omega))
    replace HB3 := hid (HB3.out.far hn (by have := HDI.out; omega))
    replace HB4 := hid (HB4.out.far hn (by have := HDI.out; omega))
    replace HB5 := hid (HB5.out.far hn (by have := HDI.out; omega))
    replace HB6 := hid (HB6.out.far hn (by have := HDI.out; omega))
    replace HB7 := hid (HB7.out.far hn (by have := HDI.out; omega))
    replace HW := hid (HW.out.trans (hn.below HW.out.size (fun i hi h9 => by have := HDI.out; omega)))
    clear hn
    have k2 := (HB1.out.2 2 (.slice (some ⟨t1, 0, none⟩) 3 3) rfl).1; have fk2 := (HB1.out.2 2 (.slice (some ⟨t1, 0, none⟩) 3 3) rfl).2
    have d1 := (HT1.out.2 1 (.int .i64 25) rfl).1; have fd1 := (HT1.out.2 1 (.int .i64 25) rfl).2
    go_upto_region 18 with fail
    clear k2 fk2
    clear d1 fd1
    obtain ⟨V17, hV17⟩ : ∃ V, (V16.setCell ⟨t1, 1, none⟩ (.int .i64 0)) = V := ⟨_, rfl⟩
    have hn : Near (fun i => i = t1) V16 V17 := by rw [← hV17]; exact ((Near.refl (fun i => i = t1) _).setCell (p := ⟨t1, 1, none⟩) (fun _ => rfl) _)
    replace HT1 : Hid (BoxIs t1 #[.int .i64 0, .int .i64 0, .int .i64 0, .int .i64 0, .int .i64 0, .int .i64 50, .int .i64 (-1), .int .i64 1, .int .i64 0, .int .i64 50, .int .i64 100, .int .i64 0, .int .i64 30, .int .i64 (-1), .int .i64 1, .int .i64 0, .int .i64 20, .int .i64 40, .int .i64 1, .int .i64 5, .int .i64 0] V17) := hid (by rw [← hV17]; exact (HT1.out.put (j := 1) (.int .i64 0)))
    rw [hV17]
    clear hV17
    replace HL0 := hid (HL0.out.far hn (by have := HDI.out; omega))
    replace HT0 := hid (HT0.out.far hn (by have := HDI.out; omega))
    replace HL1 := hid (HL1.out.far hn (by have := HDI.out; omega))
    replace HL2 := hid (HL2.out.far hn (by have := HDI.out; omega))
    replace HT2 := hid (HT2.out.far hn (by have := HDI.out; omega))
    replace HL3 := hid (HL3.out.far hn (by have := HDI.out; omega))
    replace HT3 := hid (HT3.out.far hn (by have := HDI.out; omega))
    replace HL4 := hid (HL4.out.far hn (by have := HDI.out; omega))
    replace HT4 := hid (HT4.out.far hn (by have := HDI.out; omega))
    replace HR3 := hid (HR3.out.far hn (by have := HDI.out; omega))
    replace HL5 := hid (HL5.out.far hn (by have := HDI.out; omega))
    replace HT5 := hid (HT5.out.far hn (by have := HDI.out; omega))
    replace HL6 := hid (HL6.out.far hn (by have := HDI.out; omega))
    replace HT6 := hid (HT6.out.far hn (by have := HDI.out; omega))
    replace HL7 := hid (HL7.out.far hn (by have := HDI.out; omega))
    replace HT7 := hid (HT7.out.far hn (by have := HDI.out; omega))
    replace HB0 := hid (HB0.out.far hn (by have := HDI.out; omega))
    replace HB1 := hid (HB1.out.far hn (by have := HDI.out; omega))
    replace HB2 := hid (HB2.out.far hn (by have := HDI.out; omega))
    replace HB3 := hid (HB3.out.far hn (by have := HDI.out; omega))
    replace HB4 := hid (HB4.out.far hn (by have := HDI.out; omega))
    replace HB5 := hid (HB5.out.far hn (by have := HDI.out; omega))
    replace HB6 := hid (HB6.out.far hn (by have := HDI.out; omega))
    replace HB7 := hid (HB7.out.far hn (by have := HDI.out; omega))
    replace HW := hid (HW.out.trans (hn.below HW.out.size (fun i hi h9 => by have := HDI.out; omega)))
    clear hn
    have k2 := (HB2.out.2 2 (.slice (some ⟨t2, 0, none⟩) 3 3) rfl).1; have fk2 := (HB2.out.2 2 (.slice (some ⟨t2, 0, none⟩) 3 3) rfl).2
    have d10 := (HT2.out.2 10 (.int .i64 100) rfl).1; have fd10 := (HT2.out.2 10 (.int .i64 100) rfl).2
    go_upto_region 19 with fail
    clear k2 fk2
    clear d10 fd10
    obtain ⟨V18, hV18⟩ : ∃ V, (V17.setCell ⟨t2, 10, none⟩ (.int .i64 0)) = V := ⟨_, rfl⟩
    have hn : Near (fun i => i = t2) V17 V18 := by rw [← hV18]; exact ((Near.refl (fun i => i = t2) _).setCell (p := ⟨t2, 10, none⟩) (fun _ => rfl) _)
    replace HT2 : Hid (BoxIs t2 #[.int .i64 0, .int .i64 25, .int .i64 0, .int .i64 0, .int .i64 0, .int .i64 50, .int .i64 (-1), .int .i64 1, .int .i64 0, .int .i64 50, .int .i64 0, .int .i64 0, .int .i64 30, .int .i64 (-1), .int .i64 1, .int .i64 0, .int .i64 20, .int .i64 40, .int .i64 1, .int .i64 5, .int .i64 0] V18) := hid (by rw [← hV18]; exact (HT2.out.put (j := 10) (.int .i64 0)))
    rw [hV18]
    clear hV18
    replace HL0 := hid (HL0.out.far hn (by have := HDI.out; omega))
    replace HT0 := hid (HT0.out.far hn (by have := HDI.out; omega))
    replace HL1 := hid (HL1.out.far hn (by have := HDI.out; omega))
    replace HT1 := hid (HT1.out.far hn (by have := HDI.out; omega))
    replace HL2 := hid (HL2.out.far hn (by have := HDI.out; omega))
    replace HL3 := hid (HL3.out.far hn (by have := HDI.out; omega))
    replace HT3 := hid (HT3.out.far hn (by have := HDI.out; omega))
    replace HL4 := hid (HL4.out.far hn (by have := HDI.out; omega))
    replace HT4 := hid (HT4.out.far hn (by have := HDI.out; omega))
    replace HR3 := hid (HR3.out.far hn (by have := HDI.out; omega))
    replace HL5 := hid (HL5.out.far hn (by have := HDI.out; omega))
    replace HT5 := hid (HT5.out.far hn (by have := HDI.out; omega))
    replace HL6 := hid (HL6.out.far hn (by have := HDI.out; omega))
    replace HT6 := hid (HT6.out.far hn (by have := HDI.out; omega))
    replace HL7 := hid (HL7.out.far hn (by have := HDI.out; omega))
    replace HT7 := hid (HT7.out.far hn (by have := HDI.out; omega))
    replace HB0 := hid (HB0.out.far hn (by have := HDI.out; omega))
    replace HB1 := hid (HB1.out.far hn (by have := HDI.out; omega))
    replace HB2 := hid (HB2.out.far hn (by have := HDI.out; omega))
    replace HB3 := hid (HB3.out.far hn (by have := HDI.out; omega))
    replace HB4 := hid (HB4.out.far hn (by have := HDI.out; omega))
    replace HB5 := hid (HB5.out.far hn (by have := HDI.out; omega))
    replace HB6 := hid (HB6.out.far hn (by have := HDI.out; omega))
    replace HB7 := hid (HB7.out.far hn (by have := HDI.out; omega))
    replace HW := hid (HW.out.trans (hn.below HW.out.size (fun i hi h9 => by have := HDI.out; omega)))
    clear hn
    have k2 := (HB3.out.2 2 (.slice (some ⟨t3, 0, none⟩) 3 3) rfl).1; have fk2 := (HB3.out.2 2 (.slice (some ⟨t3, 0, none⟩) 3 3) rfl).2
    have d4 := (HT3.out.2 4 (.int .i64 0) rfl).1; have fd4 := (HT3.out.2 4 (.int .i64 0) rfl).2
    go_upto_region 20 with fail
    clear k2 fk2
    clear d4 fd4
    obtain ⟨V19, hV19⟩ : ∃ V, (V18.setCell ⟨t3, 4, none⟩ (.int .i64 1)) = V := ⟨_, rfl⟩
    have hn : Near (fun i => i = t3) V18 V19 := by rw [← hV19]; exact ((Near.refl (fun i => i = t3) _).setCell (p := ⟨t3, 4, none⟩) (fun _ => rfl) _)
    replace HT3 : Hid (BoxIs t3 #[.int .i64 0, .int .i64 25, .int .i64 0, .int .i64 0, .int .i64 1, .int .i64 50, .int .i64 (-1), .int .i64 1, .int .i64 0, .int .i64 50, .int .i64 100, .int .i64 0, .int .i64 30, .int .i64 (-1), .int .i64 1, .int .i64 0, .int .i64 20, .int .i64 40, .int .i64 1, .int .i64 5, .int .i64 0] V19) := hid (by rw [← hV19]; exact (HT3.out.put (j := 4) (.int .i64 1)))
    rw [hV19]
    clear hV19
    replace HL0 := hid (HL0.out.far hn (by have := HDI.out; omega))
    replace HT0 := hid (HT0.out.far hn (by have := HDI.out; omega))
    replace HL1 := hid (HL1.out.far hn (by have := HDI.out; omega))
    replace HT1 := hid (HT1.out.far hn (by have := HDI.out; omega))
    replace HL2 := hid (HL2.out.far hn (by have := HDI.out; omega))
    replace HT2 := hid (HT2.out.far hn (by have := HDI.out; omega))
    replace HL3 := hid (HL3.out.far hn (by have := HDI.out; omega))
    replace HL4 := hid (HL4.out.far hn (by have := HDI.out; omega))
    replace HT4 := hid (HT4.out.far hn (by have := HDI.out; omega))
    replace HR3 := hid (HR3.out.far hn (by have := HDI.out; omega))
    replace HL5 := hid (HL5.out.far hn (by have := HDI.out; omega))
    replace HT5 := hid (HT5.out.far hn (by have := HDI.out; omega))
    replace HL6 := hid (HL6.out.far hn (by have := HDI.out; omega))
    replace HT6 := hid (HT6.out.far hn (by have := HDI.out; omega))
    replace HL7 := hid (HL7.out.far hn (by have := HDI.out; omega))
    replace HT7 := hid (HT7.out.far hn (by have := HDI.out; omega))
    replace HB0 := hid (HB0.out.far hn (by have := HDI.out; omega))
    replace HB1 := hid (HB1.out.far hn (by have := HDI.out; omega))
    replace HB2 := hid (HB2.out.far hn (by have := HDI.out; omega))
    replace HB3 := hid (HB3.out.far hn (by have := HDI.out; omega))
    replace HB4 := hid (HB4.out.far hn (by have := HDI.out; omega))
    replace HB5 := hid (HB5.out.far hn (by have := HDI.out; omega))
    replace HB6 := hid (HB6.out.far hn (by have := HDI.out; omega))
    replace HB7 := hid (HB7.out.far hn (by have := HDI.out; omega))
    replace HW := hid (HW.out.trans (hn.below HW.out.size (fun i hi h9 => by have := HDI.out; omega)))
    clear hn
    have k2 := (HB4.out.2 2 (.slice (some ⟨t4, 0, none⟩) 3 3) rfl).1; have fk2 := (HB4.out.2 2 (.slice (some ⟨t4, 0, none⟩) 3 3) rfl).2
    have d20 := (HT4.out.2 20 (.int .i64 0) rfl).1; have fd20 := (HT4.out.2 20 (.int .i64 0) rfl).2
    go_upto_region 21 with fail
    clear k2 fk2
    clear d20 fd20
    obtain ⟨V20, hV20⟩ : ∃ V, (V19.setCell ⟨t4, 20, none⟩ (.int .i64 2)) = V := ⟨_, rfl⟩
    have hn : Near (fun i => i = t4) V19 V20 := by rw [← hV20]; exact ((Near.refl (fun i => i = t4) _).setCell (p := ⟨t4, 20, none⟩) (fun _ => rfl) _)
    replace HT4 : Hid (BoxIs t4 #[.int .i64 0, .int .i64 25, .int .i64 0, .int .i64 0, .int .i64 0, .int .i64 50, .int .i64 (-1), .int .i64 1, .int .i64 0, .int .i64 50, .int .i64 100, .int .i64 0, .int .i64 30, .int .i64 (-1), .int .i64 1, .int .i64 0, .int .i64 20, .int .i64 40, .int .i64 1, .int .i64 5, .int .i64 2] V20) := hid (by rw [← hV20]; exact (HT4.out.put (j := 20) (.int .i64 2)))
    rw [hV20]
    clear hV20
    replace HL0 := hid (HL0.out.far hn (by have := HDI.out; omega))
    replace HT0 := hid (HT0.out.far hn (by have := HDI.out; omega))
    replace HL1 := hid (HL1.out.far hn (by have := HDI.out; omega))
    replace HT1 := hid (HT1.out.far hn (by have := HDI.out; omega))
    replace HL2 := hid (HL2.out.far hn (by have := HDI.out; omega))
    replace HT2 := hid (HT2.out.far hn (by have := HDI.out; omega))
    replace HL3 := hid (HL3.out.far hn (by have := HDI.out; omega))
    replace HT3 := hid (HT3.out.far hn (by have := HDI.out; omega))
    replace HL4 := hid (HL4.out.far hn (by have := HDI.out; omega))
    replace HR3 := hid (HR3.out.far hn (by have := HDI.out; omega))
    replace HL5 := hid (HL5.out.far hn (by have := HDI.out; omega))
    replace HT5 := hid (HT5.out.far hn (by have := HDI.out; omega))
    replace HL6 := hid (HL6.out.far hn (by have := HDI.out; omega))
    replace HT6 := hid (HT6.out.far hn (by have := HDI.out; omega))
    replace HL7 := hid (HL7.out.far hn (by have := HDI.out; omega))
    replace HT7 := hid (HT7.out.far hn (by have := HDI.out; omega))
    replace HB0 := hid (HB0.out.far hn (by have := HDI.out; omega))
    replace HB1 := hid (HB1.out.far hn (by have := HDI.out; omega))
    replace HB2 := hid (HB2.out.far hn (by have := HDI.out; omega))
    replace HB3 := hid (HB3.out.far hn (by have := HDI.out; omega))
    replace HB4 := hid (HB4.out.far hn (by have := HDI.out; omega))
    replace HB5 := hid (HB5.out.far hn (by have := HDI.out; omega))
    replace HB6 := hid (HB6.out.far hn (by have := HDI.out; omega))
    replace HB7 := hid (HB7.out.far hn (by have := HDI.out; omega))
    replace HW := hid (HW.out.trans (hn.below HW.out.size (fun i hi h9 => by have := HDI.out; omega)))
    clear hn
    have k3 := (HB5.out.2 3 (.slice (some ⟨b3, 0, none⟩) 2 2) rfl).1; have fk3 := (HB5.out.2 3 (.slice (some ⟨b3, 0, none⟩) 2 2) rfl).2
    have d0 := (HR3.out.2 0 (.int .i64 0) rfl).1; have fd0 := (HR3.out.2 0 (.int .i64 0) rfl).2
    go_upto_region 22 with fail
    clear k3 fk3
    clear d0 fd0
    obtain ⟨V21, hV21⟩ : ∃ V, (V20.setCell ⟨b3, 0, none⟩ (.int .i64 3)) = V := ⟨_, rfl⟩
    have hn : Near (fun i => i = b3) V20 V21 := by rw [← hV21]; exact ((Near.refl (fun i => i = b3) _).setCell (p := ⟨b3, 0, none⟩) (fun _ => rfl) _)
    replace HR3 : Hid (BoxIs b3 #[.int .i64 3, .int .i64 103, .int .i64 110, .int .i64 2, .int .i64 45, .int .i64 46] V21) := hid (by rw [← hV21]; exact (HR3.out.put (j := 0) (.int .i64 3)))
    rw [hV21]
    clear hV21
    replace HL0 := hid (HL0.out.far hn (by have := HDI.out; omega))
    replace HT0 := hid (HT0.out.far hn (by have := HDI.out; omega))
    replace HL1 := hid (HL1.out.far hn (by have := HDI.out; omega))
    replace HT1 := hid (HT1.out.far hn (by have := HDI.out; omega))
    replace HL2 := hid (HL2.out.far hn (by have := HDI.out; omega))
    replace HT2 := hid (HT2.out.far hn (by have := HDI.out; omega))
    replace HL3 := hid (HL3.out.far hn (by have := HDI.out; omega))
    replace HT3 := hid (HT3.out.far hn (by have := HDI.out; omega))
    replace HL4 := hid (HL4.out.far hn (by have := HDI.out; omega))
    replace HT4 := hid (HT4.out.far hn (by have := HDI.out; omega))
    replace HL5 := hid (HL5.out.far hn (by have := HDI.out; omega))
    replace HT5 := hid (HT5.out.far hn (by have := HDI.out; omega))
    replace HL6 := hid (HL6.out.far hn (by have := HDI.out; omega))
    replace HT6 := hid (HT6.out.far hn (by have := HDI.out; omega))
    replace HL7 := hid (HL7.out.far hn (by have := HDI.out; omega))
    replace HT7 := hid (HT7.out.far hn (by have := HDI.out; omega))
    replace HB0 := hid (HB0.out.far hn (by have := HDI.out; omega))
    replace HB1 := hid (HB1.out.far hn (by have := HDI.out; omega))
    replace HB2 := hid (HB2.out.far hn (by have := HDI.out; omega))
    replace HB3 := hid (HB3.out.far hn (by have := HDI.out; omega))
    replace HB4 := hid (HB4.out.far hn (by have := HDI.out; omega))
    replace HB5 := hid (HB5.out.far hn (by have := HDI.out; omega))
    replace HB6 := hid (HB6.out.far hn (by have := HDI.out; omega))
    replace HB7 := hid (HB7.out.far hn (by have := HDI.out; omega))
    replace HW := hid (HW.out.trans (hn.below HW.out.size (fun i hi h9 => by have := HDI.out; omega)))
    clear hn
    refine wp_region_held_drew (S := fun V => BoxIs (N + 6) #[.slice (some ⟨l6, 0, none⟩) 2 2, .int .i64 200, .slice (some ⟨t6, 0, none⟩) 3 3, .slice none 0 0] V) (by kernel_rfl) (HB6.out.below (Below.refl _ _).drew) (fun hS => ?_)
    simp only [List.size_toArray, List.length_cons, List.length_nil, Nat.reduceAdd, Array.replicate_succ, Array.replicate_zero, List.push_toArray, List.nil_append, List.cons_append]
    refine tkH (i := 0) (v := ?_) (fun V hV => ?_) ?_
    rotate_left
    · go_simp
      try with_reducible rfl
    try simp only [Act.put, List.getElem_toArray, List.getElem_cons_zero, List.setIfInBounds_toArray, List.set_cons_zero, List.set_cons_succ]
    refine tkH (i := 1) (v := ?_) (fun V hV => ?_) ?_
    rotate_left
    · have k0 := (hV.2 0 (.slice (some ⟨l6, 0, none⟩) 2 2) rfl).1; go_simp
      try with_reducible rfl
    try simp only [Act.put, List.getElem_toArray, List.getElem_cons_zero, List.getElem_cons_succ, List.setIfInBounds_toArray, List.set_cons_zero, List.set_cons_succ]
    refine wpAnyH_ready (rs := [2]) (by kernel_rfl) (by simp) ?_
    refine AllReadyH.cons (o := _) rfl (fun K hK => ?_) AllReadyH.nil
    go_simp
    (with_reducible refine (between_any 100 1001 _).mono ?_)
    rintro e V22a ⟨rfl, hb⟩
    have hb9 := (Below.refl V21.heap.size V21).drew.trans hb
    replace HL0 := hid (HL0.out.below hb9)
    replace HT0 := hid (HT0.out.below hb9)
    replace HL1 := hid (HL1.out.below hb9)
    replace HT1 := hid (HT1.out.below hb9)
    replace HL2 := hid (HL2.out.below hb9)
    replace HT2 := hid (HT2.out.below hb9)
    replace HL3 := hid (HL3.out.below hb9)
    replace HT3 := hid (HT3.out.below hb9)
    replace HL4 := hid (HL4.out.below hb9)
    replace HT4 := hid (HT4.out.below hb9)
    replace HR3 := hid (HR3.out.below hb9)
    replace HL5 := hid (HL5.out.below hb9)
    replace HT5 := hid (HT5.out.below hb9)
    replace HL6 := hid (HL6.out.below hb9)
    replace HT6 := hid (HT6.out.below hb9)
    replace HL7 := hid (HL7.out.below hb9)
    replace HT7 := hid (HT7.out.below hb9)
    replace HB0 := hid (HB0.out.below hb9)
    replace HB1 := hid (HB1.out.below hb9)
    replace HB2 := hid (HB2.out.below hb9)
    replace HB3 := hid (HB3.out.below hb9)
    replace HB4 := hid (HB4.out.below hb9)
    replace HB5 := hid (HB5.out.below hb9)
    replace HB6 := hid (HB6.out.below hb9)
    replace HB7 := hid (HB7.out.below hb9)
    replace HW := hid (HW.out.trans (hb9.mono HW.out.size))
    clear hb9
    refine hK.out _ _ (hS.below hb) (fun hS => ?_)
    clear hK K
    try simp only [List.setIfInBounds_toArray, List.set_cons_zero, List.set_cons_succ]
    refine tkH (i := 3) (v := ?_) (fun V hV => ?_) ?_
    rotate_left
    · go_simp
      try with_reducible rfl
    try simp only [Act.put, List.getElem_toArray, List.getElem_cons_zero, List.getElem_cons_succ, List.setIfInBounds_toArray, List.set_cons_zero, List.set_cons_succ]
    refine wpAnyH_ready (rs := [4]) (by kernel_rfl) (by simp) ?_
    refine AllReadyH.cons (o := _) rfl (fun K hK => ?_) AllReadyH.nil
    have d0 := (HL6.out.2 0 (.int .i64 100) rfl).1; have fd0 := (HL6.out.2 0 (.int .i64 100) rfl).2
    have d1 := (HL6.out.2 1 (.int .i64 120) rfl).1; have fd1 := (HL6.out.2 1 (.int .i64 120) rfl).2
    clear hS
    go_simp
    clear d0 fd0 d1 fd1
    obtain ⟨V22, hV22⟩ : ∃ V, ((V22a.setCell ⟨l6, 0, none⟩ (.int .i64 100)).setCell ⟨l6, 1, none⟩ (.int .i64 1001)) = V := ⟨_, rfl⟩
    have hn : Near (fun i => i = l6) V22a V22 := by rw [← hV22]; exact (((Near.refl (fun i => i = l6) _).setCell (p := ⟨l6, 0, none⟩) (fun _ => rfl) _).setCell (p := ⟨l6, 1, none⟩) (fun _ => rfl) _)
    replace HL6 : Hid (BoxIs l6 #[.int .i64 100, .int .i64 1001, .int .i64 300, .int .i64 300] V22) := hid (by rw [← hV22]; exact ((HL6.out.put (j := 0) (.int .i64 100)).put (j := 1) (.int .i64 1001)))
    rw [hV22]
    clear hV22
    replace HL0 := hid (HL0.out.far hn (by have := HDI.out; omega))
    replace HT0 := hid (HT0.out.far hn (by have := HDI.out; omega))
    replace HL1 := hid (HL1.out.far hn (by have := HDI.out; omega))
    replace HT1 := hid (HT1.out.far hn (by have := HDI.out; omega))
    replace HL2 := hid (HL2.out.far hn (by have := HDI.out; omega))
    replace HT2 := hid (HT2.out.far hn (by have := HDI.out; omega))
    replace HL3 := hid (HL3.out.far hn (by have := HDI.out; omega))
    replace HT3 := hid (HT3.out.far hn (by have := HDI.out; omega))
    replace HL4 := hid (HL4.out.far hn (by have := HDI.out; omega))
    replace HT4 := hid (HT4.out.far hn (by have := HDI.out; omega))
    replace HR3 := hid (HR3.out.far hn (by have := HDI.out; omega))
    replace HL5 := hid (HL5.out.far hn (by have := HDI.out; omega))
    replace HT5 := hid (HT5.out.far hn (by have := HDI.out; omega))
    replace HT6 := hid (HT6.out.far hn (by have := HDI.out; omega))
    replace HL7 := hid (HL7.out.far hn (by have := HDI.out; omega))
    replace HT7 := hid (HT7.out.far hn (by have := HDI.out; omega))
    replace HB0 := hid (HB0.out.far hn (by have := HDI.out; omega))
    replace HB1 := hid (HB1.out.far hn (by have := HDI.out; omega))
    replace HB2 := hid (HB2.out.far hn (by have := HDI.out; omega))
    replace HB3 := hid (HB3.out.far hn (by have := HDI.out; omega))
    replace HB4 := hid (HB4.out.far hn (by have := HDI.out; omega))
    replace HB5 := hid (HB5.out.far hn (by have := HDI.out; omega))
    replace HB6 := hid (HB6.out.far hn (by have := HDI.out; omega))
    replace HB7 := hid (HB7.out.far hn (by have := HDI.out; omega))
    replace HW := hid (HW.out.trans (hn.below HW.out.size (fun i hi h9 => by have := HDI.out; omega)))
    clear hn
    refine hK.out _ _ (HB6.out) (fun hS => ?_)
    clear hK K
    try simp only [List.setIfInBounds_toArray, List.set_cons_zero, List.set_cons_succ]
    refine wpAnyH_done (by kernel_rfl) ?_ _
    clear hS
    go_upto_region 23 with fail
    obtain ⟨V23, hV23⟩ : ∃ V, V22.alloc (.cells #[.int .i64 0, .int .i64 0, .int .i64 0, .int .i64 0, .int .i64 0, .int .i64 0, .int .i64 0, .int .i64 0, .int .i64 0, .int .i64 0] 51) = V := ⟨_, rfl⟩
    obtain ⟨M, hM⟩ : ∃ M, V22.heap.size = M := ⟨_, rfl⟩
    have hmk : (Instr.makeSlice 33 (.int .i64 5) (.int .i64 5)).run Try.prog V22 = .ok (.slice (some ⟨M, 0, none⟩) 5 5) V23 := by rw [← hV23, ← hM]; exact make5 _
    have hb : Below V22.heap.size V22 V23 := by rw [← hV23]; exact (Below.refl _ _).alloc (Nat.le_refl _) _
    have HM : Hid (BoxIs M #[.int .i64 0, .int .i64 0, .int .i64 0, .int .i64 0, .int .i64 0, .int .i64 0, .int .i64 0, .int .i64 0, .int .i64 0, .int .i64 0] V23) := hid (by rw [← hV23, ← hM]; exact BoxIs.start _ _ _)
    have HLM : Hid (N + 7 < M) := hid (by rw [← hM]; exact HB7.out.1)
    clear hM hV23
    replace HL0 := hid (HL0.out.below hb)
    replace HT0 := hid (HT0.out.below hb)
    replace HL1 := hid (HL1.out.below hb)
    replace HT1 := hid (HT1.out.below hb)
    replace HL2 := hid (HL2.out.below hb)
    replace HT2 := hid (HT2.out.below hb)
    replace HL3 := hid (HL3.out.below hb)
    replace HT3 := hid (HT3.out.below hb)
    replace HL4 := hid (HL4.out.below hb)
    replace HT4 := hid (HT4.out.below hb)
    replace HR3 := hid (HR3.out.below hb)
    replace HL5 := hid (HL5.out.below hb)
    replace HT5 := hid (HT5.out.below hb)
    replace HL6 := hid (HL6.out.below hb)
    replace HT6 := hid (HT6.out.below hb)
    replace HL7 := hid (HL7.out.below hb)
    replace HT7 := hid (HT7.out.below hb)
    replace HB0 := hid (HB0.out.below hb)
    replace HB1 := hid (HB1.out.below hb)
    replace HB2 := hid (HB2.out.below hb)
    replace HB3 := hid (HB3.out.below hb)
    replace HB4 := hid (HB4.out.below hb)
    replace HB5 := hid (HB5.out.below hb)
    replace HB6 := hid (HB6.out.below hb)
    replace HB7 := hid (HB7.out.below hb)
    replace HW := hid (HW.out.trans (hb.mono HW.out.size))
    clear hb
    have k0 := (HB7.out.2 0 (.slice (some ⟨l7, 0, none⟩) 2 2) rfl).1; have fk0 := (HB7.out.2 0 (.slice (some ⟨l7, 0, none⟩) 2 2) rfl).2
    go_upto_region 24 with fail
    clear k0 fk0 hmk
    obtain ⟨V24, hV24⟩ : ∃ V, (V23.setCell ⟨(N + 7), 0, none⟩ (.slice (some ⟨M, 0, none⟩) 5 5)) = V := ⟨_, rfl⟩
    have hn : Near (fun i => i = (N + 7)) V23 V24 := by rw [← hV24]; exact ((Near.refl (fun i => i = (N + 7)) _).setCell (p := ⟨(N + 7), 0, none⟩) (fun _ => rfl) _)
    replace HB7 : Hid (BoxIs (N + 7) #[.slice (some ⟨M, 0, none⟩) 5 5, .int .i64 200, .slice (some ⟨t7, 0, none⟩) 3 3, .slice none 0 0] V24) := hid (by rw [← hV24]; exact (HB7.out.put (j := 0) (.slice (some ⟨M, 0, none⟩) 5 5)))
    rw [hV24]
    clear hV24
    replace HL0 := hid (HL0.out.far hn (by have := HDI.out; have := HLM.out; omega))
    replace HT0 := hid (HT0.out.far hn (by have := HDI.out; have := HLM.out; omega))
    replace HL1 := hid (HL1.out.far hn (by have := HDI.out; have := HLM.out; omega))
    replace HT1 := hid (HT1.out.far hn (by have := HDI.out; have := HLM.out; omega))
    replace HL2 := hid (HL2.out.far hn (by have := HDI.out; have := HLM.out; omega))
    replace HT2 := hid (HT2.out.far hn (by have := HDI.out; have := HLM.out; omega))
    replace HL3 := hid (HL3.out.far hn (by have := HDI.out; have := HLM.out; omega))
    replace HT3 := hid (HT3.out.far hn (by have := HDI.out; have := HLM.out; omega))
    replace HL4 := hid (HL4.out.far hn (by have := HDI.out; have := HLM.out; omega))
    replace HT4 := hid (HT4.out.far hn (by have := HDI.out; have := HLM.out; omega))
    replace HR3 := hid (HR3.out.far hn (by have := HDI.out; have := HLM.out; omega))
    replace HL5 := hid (HL5.out.far hn (by have := HDI.out; have := HLM.out; omega))
    replace HT5 := hid (HT5.out.far hn (by have := HDI.out; have := HLM.out; omega))
    replace HL6 := hid (HL6.out.far hn (by have := HDI.out; have := HLM.out; omega))
    replace HT6 := hid (HT6.out.far hn (by have := HDI.out; have := HLM.out; omega))
    replace HL7 := hid (HL7.out.far hn (by have := HDI.out; have := HLM.out; omega))
    replace HT7 := hid (HT7.out.far hn (by have := HDI.out; have := HLM.out; omega))
    replace HB0 := hid (HB0.out.far hn (by have := HDI.out; have := HLM.out; omega))
    replace HB1 := hid (HB1.out.far hn (by have := HDI.out; have := HLM.out; omega))
    replace HB2 := hid (HB2.out.far hn (by have := HDI.out; have := HLM.out; omega))
    replace HB3 := hid (HB3.out.far hn (by have := HDI.out; have := HLM.out; omega))
    replace HB4 := hid (HB4.out.far hn (by have := HDI.out; have := HLM.out; omega))
    replace HB5 := hid (HB5.out.far hn (by have := HDI.out; have := HLM.out; omega))
    replace HB6 := hid (HB6.out.far hn (by have := HDI.out; have := HLM.out; omega))
    replace HM := hid (HM.out.far hn (by have := HDI.out; have := HLM.out; omega))
    replace HW := hid (HW.out.trans (hn.below HW.out.size (fun i hi h9 => by have := HDI.out; omega)))
    clear hn
    go_wp2_with fail
    refine (three_any none 0 0 _).mono ?_
    rintro e V25 ⟨l8, t8, rfl, h1, h2, h3, hb⟩
    replace HL0 := hid (HL0.out.below hb)
    replace HT0 := hid (HT0.out.below hb)
    replace HL1 := hid (HL1.out.below hb)
    replace HT1 := hid (HT1.out.below hb)
    replace HL2 := hid (HL2.out.below hb)
    replace HT2 := hid (HT2.out.below hb)
    replace HL3 := hid (HL3.out.below hb)
    replace HT3 := hid (HT3.out.below hb)
    replace HL4 := hid (HL4.out.below hb)
    replace HT4 := hid (HT4.out.below hb)
    replace HR3 := hid (HR3.out.below hb)
    replace HL5 := hid (HL5.out.below hb)
    replace HT5 := hid (HT5.out.below hb)
    replace HL6 := hid (HL6.out.below hb)
    replace HT6 := hid (HT6.out.below hb)
    replace HL7 := hid (HL7.out.below hb)
    replace HT7 := hid (HT7.out.below hb)
    replace HB0 := hid (HB0.out.below hb)
    replace HB1 := hid (HB1.out.below hb)
    replace HB2 := hid (HB2.out.below hb)
    replace HB3 := hid (HB3.out.below hb)
    replace HB4 := hid (HB4.out.below hb)
    replace HB5 := hid (HB5.out.below hb)
    replace HB6 := hid (HB6.out.below hb)
    replace HB7 := hid (HB7.out.below hb)
    replace HM := hid (HM.out.below hb)
    replace HW := hid (HW.out.trans (hb.mono HW.out.size))
    have HL8 := hid h1; have HT8 := hid h2
    unfold lossC at HL8; unfold treC at HT8
    clear h1 h2 h3 hb
    go_upto_region 25 with fail
    obtain ⟨V26, hV26⟩ : ∃ V, V25.alloc (.cells #[.slice (some ⟨l8, 0, none⟩) 2 2, .int .i64 200, .slice (some ⟨t8, 0, none⟩) 3 3, .slice none 0 0] 37) = V := ⟨_, rfl⟩
    rw [hV26]
    have hb : Below V25.heap.size V25 V26 := by rw [← hV26]; exact (Below.refl _ _).alloc (Nat.le_refl _) _
    have HB8 : Hid (BoxIs V25.heap.size #[.slice (some ⟨l8, 0, none⟩) 2 2, .int .i64 200, .slice (some ⟨t8, 0, none⟩) 3 3, .slice none 0 0] V26) := hid (by rw [← hV26]; exact BoxIs.start _ _ _)
    obtain ⟨K9, hK9⟩ : ∃ K, V25.heap.size = K := ⟨_, rfl⟩
    have HK9 : Hid (M < K9 ∧ l8 < K9 ∧ t8 < K9) := hid (by rw [← hK9]; exact ⟨HM.out.1, HL8.out.1, HT8.out.1⟩)
    replace HL0 := hid (HL0.out.below hb)
    replace HT0 := hid (HT0.out.below hb)
    replace HL1 := hid (HL1.out.below hb)
    replace HT1 := hid (HT1.out.below hb)
    replace HL2 := hid (HL2.out.below hb)
    replace HT2 := hid (HT2.out.below hb)
    replace HL3 := hid (HL3.out.below hb)
    replace HT3 := hid (HT3.out.below hb)
    replace HL4 := hid (HL4.out.below hb)
    replace HT4 := hid (HT4.out.below hb)
    replace HR3 := hid (HR3.out.below hb)
    replace HL5 := hid (HL5.out.below hb)
    replace HT5 := hid (HT5.out.below hb)
    replace HL6 := hid (HL6.out.below hb)
    replace HT6 := hid (HT6.out.below hb)
    replace HL7 := hid (HL7.out.below hb)
    replace HT7 := hid (HT7.out.below hb)
    replace HB0 := hid (HB0.out.below hb)
    replace HB1 := hid (HB1.out.below hb)
    replace HB2 := hid (HB2.out.below hb)
    replace HB3 := hid (HB3.out.below hb)
    replace HB4 := hid (HB4.out.below hb)
    replace HB5 := hid (HB5.out.below hb)
    replace HB6 := hid (HB6.out.below hb)
    replace HB7 := hid (HB7.out.below hb)
    replace HM := hid (HM.out.below hb)
    replace HL8 := hid (HL8.out.below hb)
    replace HT8 := hid (HT8.out.below hb)
    replace HW := hid (HW.out.trans (hb.mono HW.out.size))
    rw [hK9] at HB8 ⊢
    clear hb hV26 hK9
    go_wp2_with fail
    refine (between_any 0 99 _).mono ?_
    rintro e U0 ⟨rfl, hb⟩
    replace HL0 := hid (HL0.out.below hb)
    replace HT0 := hid (HT0.out.below hb)
    replace HL1 := hid (HL1.out.below hb)
    replace HT1 := hid (HT1.out.below hb)
    replace HL2 := hid (HL2.out.below hb)
    replace HT2 := hid (HT2.out.below hb)
    replace HL3 := hid (HL3.out.below hb)
    replace HT3 := hid (HT3.out.below hb)
    replace HL4 := hid (HL4.out.below hb)
    replace HT4 := hid (HT4.out.below hb)
    replace HR3 := hid (HR3.out.below hb)
    replace HL5 := hid (HL5.out.below hb)
    replace HT5 := hid (HT5.out.below hb)
    replace HL6 := hid (HL6.out.below hb)
    replace HT6 := hid (HT6.out.below hb)
    replace HL7 := hid (HL7.out.below hb)
    replace HT7 := hid (HT7.out.below hb)
    replace HB0 := hid (HB0.out.below hb)
    replace HB1 := hid (HB1.out.below hb)
    replace HB2 := hid (HB2.out.below hb)
    replace HB3 := hid (HB3.out.below hb)
    replace HB4 := hid (HB4.out.below hb)
    replace HB5 := hid (HB5.out.below hb)
    replace HB6 := hid (HB6.out.below hb)
    replace HB7 := hid (HB7.out.below hb)
    replace HM := hid (HM.out.below hb)
    replace HL8 := hid (HL8.out.below hb)
    replace HT8 := hid (HT8.out.below hb)
    replace HB8 := hid (HB8.out.below hb)
    replace HW := hid (HW.out.trans (hb.mono HW.out.size))
    clear hb
    go_wp2_with fail
    refine (between_any 0 15 _).mono ?_
    rintro e U1 ⟨rfl, hb⟩
    replace HL0 := hid (HL0.out.below hb)
    replace HT0 := hid (HT0.out.below hb)
    replace HL1 := hid (HL1.out.below hb)
    replace HT1 := hid (HT1.out.below hb)
    replace HL2 := hid (HL2.out.below hb)
    replace HT2 := hid (HT2.out.below hb)
    replace HL3 := hid (HL3.out.below hb)
    replace HT3 := hid (HT3.out.below hb)
    replace HL4 := hid (HL4.out.below hb)
    replace HT4 := hid (HT4.out.below hb)
    replace HR3 := hid (HR3.out.below hb)
    replace HL5 := hid (HL5.out.below hb)
    replace HT5 := hid (HT5.out.below hb)
    replace HL6 := hid (HL6.out.below hb)
    replace HT6 := hid (HT6.out.below hb)
    replace HL7 := hid (HL7.out.below hb)
    replace HT7 := hid (HT7.out.below hb)
    replace HB0 := hid (HB0.out.below hb)
    replace HB1 := hid (HB1.out.below hb)
    replace HB2 := hid (HB2.out.below hb)
    replace HB3 := hid (HB3.out.below hb)
    replace HB4 := hid (HB4.out.below hb)
    replace HB5 := hid (HB5.out.below hb)
    replace HB6 := hid (HB6.out.below hb)
    replace HB7 := hid (HB7.out.below hb)
    replace HM := hid (HM.out.below hb)
    replace HL8 := hid (HL8.out.below hb)
    replace HT8 := hid (HT8.out.below hb)
    replace HB8 := hid (HB8.out.below hb)
    replace HW := hid (HW.out.trans (hb.mono HW.out.size))
    clear hb
    have hba : Below U1.heap.size U1 (U1.alloc (.cells #[.int .i64 0, .int .i64 99, .int .i64 0, .int .i64 15] 51)) := (Below.refl _ _).alloc (Nat.le_refl _) _
    obtain ⟨U2, hU2⟩ : ∃ V, U1.alloc (.cells #[.int .i64 0, .int .i64 99, .int .i64 0, .int .i64 15] 51) = V := ⟨_, rfl⟩
    rw [hU2] at hba
    have HL9 : Hid (BoxIs U1.heap.size #[.int .i64 0, .int .i64 99, .int .i64 0, .int .i64 15] U2) := hid (by rw [← hU2]; exact BoxIs.start _ _ _)
    obtain ⟨K8, hK8⟩ : ∃ K, U1.heap.size = K := ⟨_, rfl⟩
    have HK8 : Hid (K9 < K8) := hid (by rw [← hK8]; exact HB8.out.1)
    replace HL0 := hid (HL0.out.below hba)
    replace HT0 := hid (HT0.out.below hba)
    replace HL1 := hid (HL1.out.below hba)
    replace HT1 := hid (HT1.out.below hba)
    replace HL2 := hid (HL2.out.below hba)
    replace HT2 := hid (HT2.out.below hba)
    replace HL3 := hid (HL3.out.below hba)
    replace HT3 := hid (HT3.out.below hba)
    replace HL4 := hid (HL4.out.below hba)
    replace HT4 := hid (HT4.out.below hba)
    replace HR3 := hid (HR3.out.below hba)
    replace HL5 := hid (HL5.out.below hba)
    replace HT5 := hid (HT5.out.below hba)
    replace HL6 := hid (HL6.out.below hba)
    replace HT6 := hid (HT6.out.below hba)
    replace HL7 := hid (HL7.out.below hba)
    replace HT7 := hid (HT7.out.below hba)
    replace HB0 := hid (HB0.out.below hba)
    replace HB1 := hid (HB1.out.below hba)
    replace HB2 := hid (HB2.out.below hba)
    replace HB3 := hid (HB3.out.below hba)
    replace HB4 := hid (HB4.out.below hba)
    replace HB5 := hid (HB5.out.below hba)
    replace HB6 := hid (HB6.out.below hba)
    replace HB7 := hid (HB7.out.below hba)
    replace HM := hid (HM.out.below hba)
    replace HL8 := hid (HL8.out.below hba)
    replace HT8 := hid (HT8.out.below hba)
    replace HB8 := hid (HB8.out.below hba)
    replace HW := hid (HW.out.trans (hba.mono HW.out.size))
    rw [hK8] at HL9
    clear hba
    have k0 := (HB8.out.2 0 (.slice (some ⟨l8, 0, none⟩) 2 2) rfl).1; have fk0 := (HB8.out.2 0 (.slice (some ⟨l8, 0, none⟩) 2 2) rfl).2
    go_upto_region 26 with fail
    try rw [hK8]
    clear hU2 hK8
    clear k0 fk0
    obtain ⟨U3, hU3⟩ : ∃ V, (U2.setCell ⟨K9, 0, none⟩ (.slice (some ⟨K8, 0, none⟩) 2 2)) = V := ⟨_, rfl⟩
    have hn : Near (fun i => i = K9) U2 U3 := by rw [← hU3]; exact ((Near.refl (fun i => i = K9) _).setCell (p := ⟨K9, 0, none⟩) (fun _ => rfl) _)
    replace HB8 : Hid (BoxIs K9 #[.slice (some ⟨K8, 0, none⟩) 2 2, .int .i64 200, .slice (some ⟨t8, 0, none⟩) 3 3, .slice none 0 0] U3) := hid (by rw [← hU3]; exact (HB8.out.put (j := 0) (.slice (some ⟨K8, 0, none⟩) 2 2)))
    rw [hU3]
    clear hU3
    replace HL0 := hid (HL0.out.far hn (by have := HDI.out; have := HLM.out; have := HK9.out; have := HK8.out; omega))
    replace HT0 := hid (HT0.out.far hn (by have := HDI.out; have := HLM.out; have := HK9.out; have := HK8.out; omega))
    replace HL1 := hid (HL1.out.far hn (by have := HDI.out; have := HLM.out; have := HK9.out; have := HK8.out; omega))
    replace HT1 := hid (HT1.out.far hn (by have := HDI.out; have := HLM.out; have := HK9.out; have := HK8.out; omega))
    replace HL2 := hid (HL2.out.far hn (by have := HDI.out; have := HLM.out; have := HK9.out; have := HK8.out; omega))
    replace HT2 := hid (HT2.out.far hn (by have := HDI.out; have := HLM.out; have := HK9.out; have := HK8.out; omega))
    replace HL3 := hid (HL3.out.far hn (by have := HDI.out; have := HLM.out; have := HK9.out; have := HK8.out; omega))
    replace HT3 := hid (HT3.out.far hn (by have := HDI.out; have := HLM.out; have := HK9.out; have := HK8.out; omega))
    replace HL4 := hid (HL4.out.far hn (by have := HDI.out; have := HLM.out; have := HK9.out; have := HK8.out; omega))
    replace HT4 := hid (HT4.out.far hn (by have := HDI.out; have := HLM.out; have := HK9.out; have := HK8.out; omega))
    replace HR3 := hid (HR3.out.far hn (by have := HDI.out; have := HLM.out; have := HK9.out; have := HK8.out; omega))
    replace HL5 := hid (HL5.out.far hn (by have := HDI.out; have := HLM.out; have := HK9.out; have := HK8.out; omega))
    replace HT5 := hid (HT5.out.far hn (by have := HDI.out; have := HLM.out; have := HK9.out; have := HK8.out; omega))
    replace HL6 := hid (HL6.out.far hn (by have := HDI.out; have := HLM.out; have := HK9.out; have := HK8.out; omega))
    replace HT6 := hid (HT6.out.far hn (by have := HDI.out; have := HLM.out; have := HK9.out; have := HK8.out; omega))
    replace HL7 := hid (HL7.out.far hn (by have := HDI.out; have := HLM.out; have := HK9.out; have := HK8.out; omega))
    replace HT7 := hid (HT7.out.far hn (by have := HDI.out; have := HLM.out; have := HK9.out; have := HK8.out; omega))
    replace HB0 := hid (HB0.out.far hn (by have := HDI.out; have := HLM.out; have := HK9.out; have := HK8.out; omega))
    replace HB1 := hid (HB1.out.far hn (by have := HDI.out; have := HLM.out; have := HK9.out; have := HK8.out; omega))
    replace HB2 := hid (HB2.out.far hn (by have := HDI.out; have := HLM.out; have := HK9.out; have := HK8.out; omega))
    replace HB3 := hid (HB3.out.far hn (by have := HDI.out; have := HLM.out; have := HK9.out; have := HK8.out; omega))
    replace HB4 := hid (HB4.out.far hn (by have := HDI.out; have := HLM.out; have := HK9.out; have := HK8.out; omega))
    replace HB5 := hid (HB5.out.far hn (by have := HDI.out; have := HLM.out; have := HK9.out; have := HK8.out; omega))
    replace HB6 := hid (HB6.out.far hn (by have := HDI.out; have := HLM.out; have := HK9.out; have := HK8.out; omega))
    replace HB7 := hid (HB7.out.far hn (by have := HDI.out; have := HLM.out; have := HK9.out; have := HK8.out; omega))
    replace HM := hid (HM.out.far hn (by have := HDI.out; have := HLM.out; have := HK9.out; have := HK8.out; omega))
    replace HL8 := hid (HL8.out.far hn (by have := HDI.out; have := HLM.out; have := HK9.out; have := HK8.out; omega))
    replace HT8 := hid (HT8.out.far hn (by have := HDI.out; have := HLM.out; have := HK9.out; have := HK8.out; omega))
    replace HL9 := hid (HL9.out.far hn (by have := HDI.out; have := HLM.out; have := HK9.out; have := HK8.out; omega))
    replace HW := hid (HW.out.trans (hn.below HW.out.size (fun i hi h9 => by have := HDI.out; have := HLM.out; have := HK9.out; omega)))
    clear hn
    have k0 := (HB0.out.2 0 (.slice (some ⟨l0, 0, none⟩) 2 2) rfl).1; have k1 := (HB0.out.2 1 (.int .i64 200) rfl).1; have k2 := (HB0.out.2 2 (.slice (some ⟨t0, 0, none⟩) 3 3) rfl).1; have k3 := (HB0.out.2 3 (.slice none 0 0) rfl).1
    skip
    go_wp2_with fail
    refine (check_any (⟨[⟨100, 120⟩, ⟨300, 300⟩], 200, [⟨2, 25, 0, 0, 0, 50, (-1)⟩, ⟨1, 0, 50, 100, 0, 30, (-1)⟩, ⟨1, 0, 20, 40, 1, 5, 0⟩], []⟩ : Prg) (some ⟨l0, 0, none⟩) 2 2 (some ⟨t0, 0, none⟩) 3 3 none 0 0 _ ⟨BoxIs.rows (l := [⟨100, 120⟩, ⟨300, 300⟩]) cellsR_len HL0.out, BoxIs.rows (l := [⟨2, 25, 0, 0, 0, 50, (-1)⟩, ⟨1, 0, 50, 100, 0, 30, (-1)⟩, ⟨1, 0, 20, 40, 1, 5, 0⟩]) cellsT_len HT0.out, (rows_none _)⟩).mono ?_
    rintro e Y0 ⟨rfl, hb⟩
    rw [nm_f0]
    replace HL0 := hid (HL0.out.below hb)
    replace HT0 := hid (HT0.out.below hb)
    replace HL1 := hid (HL1.out.below hb)
    replace HT1 := hid (HT1.out.below hb)
    replace HL2 := hid (HL2.out.below hb)
    replace HT2 := hid (HT2.out.below hb)
    replace HL3 := hid (HL3.out.below hb)
    replace HT3 := hid (HT3.out.below hb)
    replace HL4 := hid (HL4.out.below hb)
    replace HT4 := hid (HT4.out.below hb)
    replace HR3 := hid (HR3.out.below hb)
    replace HL5 := hid (HL5.out.below hb)
    replace HT5 := hid (HT5.out.below hb)
    replace HL6 := hid (HL6.out.below hb)
    replace HT6 := hid (HT6.out.below hb)
    replace HL7 := hid (HL7.out.below hb)
    replace HT7 := hid (HT7.out.below hb)
    replace HB0 := hid (HB0.out.below hb)
    replace HB1 := hid (HB1.out.below hb)
    replace HB2 := hid (HB2.out.below hb)
    replace HB3 := hid (HB3.out.below hb)
    replace HB4 := hid (HB4.out.below hb)
    replace HB5 := hid (HB5.out.below hb)
    replace HB6 := hid (HB6.out.below hb)
    replace HB7 := hid (HB7.out.below hb)
    replace HM := hid (HM.out.below hb)
    replace HL8 := hid (HL8.out.below hb)
    replace HT8 := hid (HT8.out.below hb)
    replace HB8 := hid (HB8.out.below hb)
    replace HL9 := hid (HL9.out.below hb)
    replace HW := hid (HW.out.trans (hb.mono HW.out.size))
    clear hb k0 k1 k2 k3
    have k0 := (HB1.out.2 0 (.slice (some ⟨l1, 0, none⟩) 2 2) rfl).1; have k1 := (HB1.out.2 1 (.int .i64 200) rfl).1; have k2 := (HB1.out.2 2 (.slice (some ⟨t1, 0, none⟩) 3 3) rfl).1; have k3 := (HB1.out.2 3 (.slice none 0 0) rfl).1
    skip
    go_wp2_with fail
    refine (check_any (⟨[⟨100, 120⟩, ⟨300, 300⟩], 200, [⟨0, 0, 0, 0, 0, 50, (-1)⟩, ⟨1, 0, 50, 100, 0, 30, (-1)⟩, ⟨1, 0, 20, 40, 1, 5, 0⟩], []⟩ : Prg) (some ⟨l1, 0, none⟩) 2 2 (some ⟨t1, 0, none⟩) 3 3 none 0 0 _ ⟨BoxIs.rows (l := [⟨100, 120⟩, ⟨300, 300⟩]) cellsR_len HL1.out, BoxIs.rows (l := [⟨0, 0, 0, 0, 0, 50, (-1)⟩, ⟨1, 0, 50, 100, 0, 30, (-1)⟩, ⟨1, 0, 20, 40, 1, 5, 0⟩]) cellsT_len HT1.out, (rows_none _)⟩).mono ?_
    rintro e Y1 ⟨rfl, hb⟩
    rw [nm_f1]
    replace HL0 := hid (HL0.out.below hb)
    replace HT0 := hid (HT0.out.below hb)
    replace HL1 := hid (HL1.out.below hb)
    replace HT1 := hid (HT1.out.below hb)
    replace HL2 := hid (HL2.out.below hb)
    replace HT2 := hid (HT2.out.below hb)
    replace HL3 := hid (HL3.out.below hb)
    replace HT3 := hid (HT3.out.below hb)
    replace HL4 := hid (HL4.out.below hb)
    replace HT4 := hid (HT4.out.below hb)
    replace HR3 := hid (HR3.out.below hb)
    replace HL5 := hid (HL5.out.below hb)
    replace HT5 := hid (HT5.out.below hb)
    replace HL6 := hid (HL6.out.below hb)
    replace HT6 := hid (HT6.out.below hb)
    replace HL7 := hid (HL7.out.below hb)
    replace HT7 := hid (HT7.out.below hb)
    replace HB0 := hid (HB0.out.below hb)
    replace HB1 := hid (HB1.out.below hb)
    replace HB2 := hid (HB2.out.below hb)
    replace HB3 := hid (HB3.out.below hb)
    replace HB4 := hid (HB4.out.below hb)
    replace HB5 := hid (HB5.out.below hb)
    replace HB6 := hid (HB6.out.below hb)
    replace HB7 := hid (HB7.out.below hb)
    replace HM := hid (HM.out.below hb)
    replace HL8 := hid (HL8.out.below hb)
    replace HT8 := hid (HT8.out.below hb)
    replace HB8 := hid (HB8.out.below hb)
    replace HL9 := hid (HL9.out.below hb)
    replace HW := hid (HW.out.trans (hb.mono HW.out.size))
    clear hb k0 k1 k2 k3
    have k0 := (HB2.out.2 0 (.slice (some ⟨l2, 0, none⟩) 2 2) rfl).1; have k1 := (HB2.out.2 1 (.int .i64 200) rfl).1; have k2 := (HB2.out.2 2 (.slice (some ⟨t2, 0, none⟩) 3 3) rfl).1; have k3 := (HB2.out.2 3 (.slice none 0 0) rfl).1
    skip
    go_wp2_with fail
    refine (check_any (⟨[⟨100, 120⟩, ⟨300, 300⟩], 200, [⟨0, 25, 0, 0, 0, 50, (-1)⟩, ⟨1, 0, 50, 0, 0, 30, (-1)⟩, ⟨1, 0, 20, 40, 1, 5, 0⟩], []⟩ : Prg) (some ⟨l2, 0, none⟩) 2 2 (some ⟨t2, 0, none⟩) 3 3 none 0 0 _ ⟨BoxIs.rows (l := [⟨100, 120⟩, ⟨300, 300⟩]) cellsR_len HL2.out, BoxIs.rows (l := [⟨0, 25, 0, 0, 0, 50, (-1)⟩, ⟨1, 0, 50, 0, 0, 30, (-1)⟩, ⟨1, 0, 20, 40, 1, 5, 0⟩]) cellsT_len HT2.out, (rows_none _)⟩).mono ?_
    rintro e Y2 ⟨rfl, hb⟩
    rw [nm_f2]
    replace HL0 := hid (HL0.out.below hb)
    replace HT0 := hid (HT0.out.below hb)
    replace HL1 := hid (HL1.out.below hb)
    replace HT1 := hid (HT1.out.below hb)
    replace HL2 := hid (HL2.out.below hb)
    replace HT2 := hid (HT2.out.below hb)
    replace HL3 := hid (HL3.out.below hb)
    replace HT3 := hid (HT3.out.below hb)
    replace HL4 := hid (HL4.out.below hb)
    replace HT4 := hid (HT4.out.below hb)
    replace HR3 := hid (HR3.out.below hb)
    replace HL5 := hid (HL5.out.below hb)
    replace HT5 := hid (HT5.out.below hb)
    replace HL6 := hid (HL6.out.below hb)
    replace HT6 := hid (HT6.out.below hb)
    replace HL7 := hid (HL7.out.below hb)
    replace HT7 := hid (HT7.out.below hb)
    replace HB0 := hid (HB0.out.below hb)
    replace HB1 := hid (HB1.out.below hb)
    replace HB2 := hid (HB2.out.below hb)
    replace HB3 := hid (HB3.out.below hb)
    replace HB4 := hid (HB4.out.below hb)
    replace HB5 := hid (HB5.out.below hb)
    replace HB6 := hid (HB6.out.below hb)
    replace HB7 := hid (HB7.out.below hb)
    replace HM := hid (HM.out.below hb)
    replace HL8 := hid (HL8.out.below hb)
    replace HT8 := hid (HT8.out.below hb)
    replace HB8 := hid (HB8.out.below hb)
    replace HL9 := hid (HL9.out.below hb)
    replace HW := hid (HW.out.trans (hb.mono HW.out.size))
    clear hb k0 k1 k2 k3
    have k0 := (HB3.out.2 0 (.slice (some ⟨l3, 0, none⟩) 2 2) rfl).1; have k1 := (HB3.out.2 1 (.int .i64 200) rfl).1; have k2 := (HB3.out.2 2 (.slice (some ⟨t3, 0, none⟩) 3 3) rfl).1; have k3 := (HB3.out.2 3 (.slice none 0 0) rfl).1
    skip
    go_wp2_with fail
    refine (check_any (⟨[⟨100, 120⟩, ⟨300, 300⟩], 200, [⟨0, 25, 0, 0, 1, 50, (-1)⟩, ⟨1, 0, 50, 100, 0, 30, (-1)⟩, ⟨1, 0, 20, 40, 1, 5, 0⟩], []⟩ : Prg) (some ⟨l3, 0, none⟩) 2 2 (some ⟨t3, 0, none⟩) 3 3 none 0 0 _ ⟨BoxIs.rows (l := [⟨100, 120⟩, ⟨300, 300⟩]) cellsR_len HL3.out, BoxIs.rows (l := [⟨0, 25, 0, 0, 1, 50, (-1)⟩, ⟨1, 0, 50, 100, 0, 30, (-1)⟩, ⟨1, 0, 20, 40, 1, 5, 0⟩]) cellsT_len HT3.out, (rows_none _)⟩).mono ?_
    rintro e Y3 ⟨rfl, hb⟩
    rw [nm_f3]
    replace HL0 := hid (HL0.out.below hb)
    replace HT0 := hid (HT0.out.below hb)
    replace HL1 := hid (HL1.out.below hb)
    replace HT1 := hid (HT1.out.below hb)
    replace HL2 := hid (HL2.out.below hb)
    replace HT2 := hid (HT2.out.below hb)
    replace HL3 := hid (HL3.out.below hb)
    replace HT3 := hid (HT3.out.below hb)
    replace HL4 := hid (HL4.out.below hb)
    replace HT4 := hid (HT4.out.below hb)
    replace HR3 := hid (HR3.out.below hb)
    replace HL5 := hid (HL5.out.below hb)
    replace HT5 := hid (HT5.out.below hb)
    replace HL6 := hid (HL6.out.below hb)
    replace HT6 := hid (HT6.out.below hb)
    replace HL7 := hid (HL7.out.below hb)
    replace HT7 := hid (HT7.out.below hb)
    replace HB0 := hid (HB0.out.below hb)
    replace HB1 := hid (HB1.out.below hb)
    replace HB2 := hid (HB2.out.below hb)
    replace HB3 := hid (HB3.out.below hb)
    replace HB4 := hid (HB4.out.below hb)
    replace HB5 := hid (HB5.out.below hb)
    replace HB6 := hid (HB6.out.below hb)
    replace HB7 := hid (HB7.out.below hb)
    replace HM := hid (HM.out.below hb)
    replace HL8 := hid (HL8.out.below hb)
    replace HT8 := hid (HT8.out.below hb)
    replace HB8 := hid (HB8.out.below hb)
    replace HL9 := hid (HL9.out.below hb)
    replace HW := hid (HW.out.trans (hb.mono HW.out.size))
    clear hb k0 k1 k2 k3
    have k0 := (HB4.out.2 0 (.slice (some ⟨l4, 0, none⟩) 2 2) rfl).1; have k1 := (HB4.out.2 1 (.int .i64 200) rfl).1; have k2 := (HB4.out.2 2 (.slice (some ⟨t4, 0, none⟩) 3 3) rfl).1; have k3 := (HB4.out.2 3 (.slice none 0 0) rfl).1
    skip
    go_wp2_with fail
    refine (check_any (⟨[⟨100, 120⟩, ⟨300, 300⟩], 200, [⟨0, 25, 0, 0, 0, 50, (-1)⟩, ⟨1, 0, 50, 100, 0, 30, (-1)⟩, ⟨1, 0, 20, 40, 1, 5, 2⟩], []⟩ : Prg) (some ⟨l4, 0, none⟩) 2 2 (some ⟨t4, 0, none⟩) 3 3 none 0 0 _ ⟨BoxIs.rows (l := [⟨100, 120⟩, ⟨300, 300⟩]) cellsR_len HL4.out, BoxIs.rows (l := [⟨0, 25, 0, 0, 0, 50, (-1)⟩, ⟨1, 0, 50, 100, 0, 30, (-1)⟩, ⟨1, 0, 20, 40, 1, 5, 2⟩]) cellsT_len HT4.out, (rows_none _)⟩).mono ?_
    rintro e Y4 ⟨rfl, hb⟩
    rw [nm_f4]
    replace HL0 := hid (HL0.out.below hb)
    replace HT0 := hid (HT0.out.below hb)
    replace HL1 := hid (HL1.out.below hb)
    replace HT1 := hid (HT1.out.below hb)
    replace HL2 := hid (HL2.out.below hb)
    replace HT2 := hid (HT2.out.below hb)
    replace HL3 := hid (HL3.out.below hb)
    replace HT3 := hid (HT3.out.below hb)
    replace HL4 := hid (HL4.out.below hb)
    replace HT4 := hid (HT4.out.below hb)
    replace HR3 := hid (HR3.out.below hb)
    replace HL5 := hid (HL5.out.below hb)
    replace HT5 := hid (HT5.out.below hb)
    replace HL6 := hid (HL6.out.below hb)
    replace HT6 := hid (HT6.out.below hb)
    replace HL7 := hid (HL7.out.below hb)
    replace HT7 := hid (HT7.out.below hb)
    replace HB0 := hid (HB0.out.below hb)
    replace HB1 := hid (HB1.out.below hb)
    replace HB2 := hid (HB2.out.below hb)
    replace HB3 := hid (HB3.out.below hb)
    replace HB4 := hid (HB4.out.below hb)
    replace HB5 := hid (HB5.out.below hb)
    replace HB6 := hid (HB6.out.below hb)
    replace HB7 := hid (HB7.out.below hb)
    replace HM := hid (HM.out.below hb)
    replace HL8 := hid (HL8.out.below hb)
    replace HT8 := hid (HT8.out.below hb)
    replace HB8 := hid (HB8.out.below hb)
    replace HL9 := hid (HL9.out.below hb)
    replace HW := hid (HW.out.trans (hb.mono HW.out.size))
    clear hb k0 k1 k2 k3
    have k0 := (HB5.out.2 0 (.slice (some ⟨l5, 0, none⟩) 2 2) rfl).1; have k1 := (HB5.out.2 1 (.int .i64 200) rfl).1; have k2 := (HB5.out.2 2 (.slice (some ⟨t5, 0, none⟩) 3 3) rfl).1; have k3 := (HB5.out.2 3 (.slice (some ⟨b3, 0, none⟩) 2 2) rfl).1
    skip
    go_wp2_with fail
    refine (check_any (⟨[⟨100, 120⟩, ⟨300, 300⟩], 200, [⟨0, 25, 0, 0, 0, 50, (-1)⟩, ⟨1, 0, 50, 100, 0, 30, (-1)⟩, ⟨1, 0, 20, 40, 1, 5, 0⟩], [⟨3, ⟨103, 110⟩⟩, ⟨2, ⟨45, 46⟩⟩]⟩ : Prg) (some ⟨l5, 0, none⟩) 2 2 (some ⟨t5, 0, none⟩) 3 3 (some ⟨b3, 0, none⟩) 2 2 _ ⟨BoxIs.rows (l := [⟨100, 120⟩, ⟨300, 300⟩]) cellsR_len HL5.out, BoxIs.rows (l := [⟨0, 25, 0, 0, 0, 50, (-1)⟩, ⟨1, 0, 50, 100, 0, 30, (-1)⟩, ⟨1, 0, 20, 40, 1, 5, 0⟩]) cellsT_len HT5.out, (BoxIs.rows (l := [⟨3, ⟨103, 110⟩⟩, ⟨2, ⟨45, 46⟩⟩]) cellsE_len HR3.out)⟩).mono ?_
    rintro e Y5 ⟨rfl, hb⟩
    rw [nm_f5]
    replace HL0 := hid (HL0.out.below hb)
    replace HT0 := hid (HT0.out.below hb)
    replace HL1 := hid (HL1.out.below hb)
    replace HT1 := hid (HT1.out.below hb)
    replace HL2 := hid (HL2.out.below hb)
    replace HT2 := hid (HT2.out.below hb)
    replace HL3 := hid (HL3.out.below hb)
    replace HT3 := hid (HT3.out.below hb)
    replace HL4 := hid (HL4.out.below hb)
    replace HT4 := hid (HT4.out.below hb)
    replace HR3 := hid (HR3.out.below hb)
    replace HL5 := hid (HL5.out.below hb)
    replace HT5 := hid (HT5.out.below hb)
    replace HL6 := hid (HL6.out.below hb)
    replace HT6 := hid (HT6.out.below hb)
    replace HL7 := hid (HL7.out.below hb)
    replace HT7 := hid (HT7.out.below hb)
    replace HB0 := hid (HB0.out.below hb)
    replace HB1 := hid (HB1.out.below hb)
    replace HB2 := hid (HB2.out.below hb)
    replace HB3 := hid (HB3.out.below hb)
    replace HB4 := hid (HB4.out.below hb)
    replace HB5 := hid (HB5.out.below hb)
    replace HB6 := hid (HB6.out.below hb)
    replace HB7 := hid (HB7.out.below hb)
    replace HM := hid (HM.out.below hb)
    replace HL8 := hid (HL8.out.below hb)
    replace HT8 := hid (HT8.out.below hb)
    replace HB8 := hid (HB8.out.below hb)
    replace HL9 := hid (HL9.out.below hb)
    replace HW := hid (HW.out.trans (hb.mono HW.out.size))
    clear hb k0 k1 k2 k3
    have k0 := (HB6.out.2 0 (.slice (some ⟨l6, 0, none⟩) 2 2) rfl).1; have k1 := (HB6.out.2 1 (.int .i64 200) rfl).1; have k2 := (HB6.out.2 2 (.slice (some ⟨t6, 0, none⟩) 3 3) rfl).1; have k3 := (HB6.out.2 3 (.slice none 0 0) rfl).1
    skip
    go_wp2_with fail
    refine (check_any (⟨[⟨100, 1001⟩, ⟨300, 300⟩], 200, [⟨0, 25, 0, 0, 0, 50, (-1)⟩, ⟨1, 0, 50, 100, 0, 30, (-1)⟩, ⟨1, 0, 20, 40, 1, 5, 0⟩], []⟩ : Prg) (some ⟨l6, 0, none⟩) 2 2 (some ⟨t6, 0, none⟩) 3 3 none 0 0 _ ⟨BoxIs.rows (l := [⟨100, 1001⟩, ⟨300, 300⟩]) cellsR_len HL6.out, BoxIs.rows (l := [⟨0, 25, 0, 0, 0, 50, (-1)⟩, ⟨1, 0, 50, 100, 0, 30, (-1)⟩, ⟨1, 0, 20, 40, 1, 5, 0⟩]) cellsT_len HT6.out, (rows_none _)⟩).mono ?_
    rintro e Y6 ⟨rfl, hb⟩
    rw [nm_f6]
    replace HL0 := hid (HL0.out.below hb)
    replace HT0 := hid (HT0.out.below hb)
    replace HL1 := hid (HL1.out.below hb)
    replace HT1 := hid (HT1.out.below hb)
    replace HL2 := hid (HL2.out.below hb)
    replace HT2 := hid (HT2.out.below hb)
    replace HL3 := hid (HL3.out.below hb)
    replace HT3 := hid (HT3.out.below hb)
    replace HL4 := hid (HL4.out.below hb)
    replace HT4 := hid (HT4.out.below hb)
    replace HR3 := hid (HR3.out.below hb)
    replace HL5 := hid (HL5.out.below hb)
    replace HT5 := hid (HT5.out.below hb)
    replace HL6 := hid (HL6.out.below hb)
    replace HT6 := hid (HT6.out.below hb)
    replace HL7 := hid (HL7.out.below hb)
    replace HT7 := hid (HT7.out.below hb)
    replace HB0 := hid (HB0.out.below hb)
    replace HB1 := hid (HB1.out.below hb)
    replace HB2 := hid (HB2.out.below hb)
    replace HB3 := hid (HB3.out.below hb)
    replace HB4 := hid (HB4.out.below hb)
    replace HB5 := hid (HB5.out.below hb)
    replace HB6 := hid (HB6.out.below hb)
    replace HB7 := hid (HB7.out.below hb)
    replace HM := hid (HM.out.below hb)
    replace HL8 := hid (HL8.out.below hb)
    replace HT8 := hid (HT8.out.below hb)
    replace HB8 := hid (HB8.out.below hb)
    replace HL9 := hid (HL9.out.below hb)
    replace HW := hid (HW.out.trans (hb.mono HW.out.size))
    clear hb k0 k1 k2 k3
    have k0 := (HB7.out.2 0 (.slice (some ⟨M, 0, none⟩) 5 5) rfl).1; have k1 := (HB7.out.2 1 (.int .i64 200) rfl).1; have k2 := (HB7.out.2 2 (.slice (some ⟨t7, 0, none⟩) 3 3) rfl).1; have k3 := (HB7.out.2 3 (.slice none 0 0) rfl).1
    skip
    go_wp2_with fail
    refine (check_any (⟨[⟨0, 0⟩, ⟨0, 0⟩, ⟨0, 0⟩, ⟨0, 0⟩, ⟨0, 0⟩], 200, [⟨0, 25, 0, 0, 0, 50, (-1)⟩, ⟨1, 0, 50, 100, 0, 30, (-1)⟩, ⟨1, 0, 20, 40, 1, 5, 0⟩], []⟩ : Prg) (some ⟨M, 0, none⟩) 5 5 (some ⟨t7, 0, none⟩) 3 3 none 0 0 _ ⟨BoxIs.rows (l := [⟨0, 0⟩, ⟨0, 0⟩, ⟨0, 0⟩, ⟨0, 0⟩, ⟨0, 0⟩]) cellsR_len HM.out, BoxIs.rows (l := [⟨0, 25, 0, 0, 0, 50, (-1)⟩, ⟨1, 0, 50, 100, 0, 30, (-1)⟩, ⟨1, 0, 20, 40, 1, 5, 0⟩]) cellsT_len HT7.out, (rows_none _)⟩).mono ?_
    rintro e Y7 ⟨rfl, hb⟩
    rw [nm_f7]
    replace HL0 := hid (HL0.out.below hb)
    replace HT0 := hid (HT0.out.below hb)
    replace HL1 := hid (HL1.out.below hb)
    replace HT1 := hid (HT1.out.below hb)
    replace HL2 := hid (HL2.out.below hb)
    replace HT2 := hid (HT2.out.below hb)
    replace HL3 := hid (HL3.out.below hb)
    replace HT3 := hid (HT3.out.below hb)
    replace HL4 := hid (HL4.out.below hb)
    replace HT4 := hid (HT4.out.below hb)
    replace HR3 := hid (HR3.out.below hb)
    replace HL5 := hid (HL5.out.below hb)
    replace HT5 := hid (HT5.out.below hb)
    replace HL6 := hid (HL6.out.below hb)
    replace HT6 := hid (HT6.out.below hb)
    replace HL7 := hid (HL7.out.below hb)
    replace HT7 := hid (HT7.out.below hb)
    replace HB0 := hid (HB0.out.below hb)
    replace HB1 := hid (HB1.out.below hb)
    replace HB2 := hid (HB2.out.below hb)
    replace HB3 := hid (HB3.out.below hb)
    replace HB4 := hid (HB4.out.below hb)
    replace HB5 := hid (HB5.out.below hb)
    replace HB6 := hid (HB6.out.below hb)
    replace HB7 := hid (HB7.out.below hb)
    replace HM := hid (HM.out.below hb)
    replace HL8 := hid (HL8.out.below hb)
    replace HT8 := hid (HT8.out.below hb)
    replace HB8 := hid (HB8.out.below hb)
    replace HL9 := hid (HL9.out.below hb)
    replace HW := hid (HW.out.trans (hb.mono HW.out.size))
    clear hb k0 k1 k2 k3
    have k0 := (HB8.out.2 0 (.slice (some ⟨K8, 0, none⟩) 2 2) rfl).1; have k1 := (HB8.out.2 1 (.int .i64 200) rfl).1; have k2 := (HB8.out.2 2 (.slice (some ⟨t8, 0, none⟩) 3 3) rfl).1; have k3 := (HB8.out.2 3 (.slice none 0 0) rfl).1
    skip
    go_wp2_with fail
    refine (check_any (⟨[⟨0, 99⟩, ⟨0, 15⟩], 200, [⟨0, 25, 0, 0, 0, 50, (-1)⟩, ⟨1, 0, 50, 100, 0, 30, (-1)⟩, ⟨1, 0, 20, 40, 1, 5, 0⟩], []⟩ : Prg) (some ⟨K8, 0, none⟩) 2 2 (some ⟨t8, 0, none⟩) 3 3 none 0 0 _ ⟨BoxIs.rows (l := [⟨0, 99⟩, ⟨0, 15⟩]) cellsR_len HL9.out, BoxIs.rows (l := [⟨0, 25, 0, 0, 0, 50, (-1)⟩, ⟨1, 0, 50, 100, 0, 30, (-1)⟩, ⟨1, 0, 20, 40, 1, 5, 0⟩]) cellsT_len HT8.out, (rows_none _)⟩).mono ?_
    rintro e Y8 ⟨rfl, hb⟩
    rw [nm_f8]
    replace HL0 := hid (HL0.out.below hb)
    replace HT0 := hid (HT0.out.below hb)
    replace HL1 := hid (HL1.out.below hb)
    replace HT1 := hid (HT1.out.below hb)
    replace HL2 := hid (HL2.out.below hb)
    replace HT2 := hid (HT2.out.below hb)
    replace HL3 := hid (HL3.out.below hb)
    replace HT3 := hid (HT3.out.below hb)
    replace HL4 := hid (HL4.out.below hb)
    replace HT4 := hid (HT4.out.below hb)
    replace HR3 := hid (HR3.out.below hb)
    replace HL5 := hid (HL5.out.below hb)
    replace HT5 := hid (HT5.out.below hb)
    replace HL6 := hid (HL6.out.below hb)
    replace HT6 := hid (HT6.out.below hb)
    replace HL7 := hid (HL7.out.below hb)
    replace HT7 := hid (HT7.out.below hb)
    replace HB0 := hid (HB0.out.below hb)
    replace HB1 := hid (HB1.out.below hb)
    replace HB2 := hid (HB2.out.below hb)
    replace HB3 := hid (HB3.out.below hb)
    replace HB4 := hid (HB4.out.below hb)
    replace HB5 := hid (HB5.out.below hb)
    replace HB6 := hid (HB6.out.below hb)
    replace HB7 := hid (HB7.out.below hb)
    replace HM := hid (HM.out.below hb)
    replace HL8 := hid (HL8.out.below hb)
    replace HT8 := hid (HT8.out.below hb)
    replace HB8 := hid (HB8.out.below hb)
    replace HL9 := hid (HL9.out.below hb)
    replace HW := hid (HW.out.trans (hb.mono HW.out.size))
    clear hb k0 k1 k2 k3
    go_wp2_with fail
    refine (check_any (⟨[], 0, [], []⟩ : Prg) none 0 0 none 0 0 none 0 0 _ ⟨rows_none _, rows_none _, rows_none _⟩).mono ?_
    rintro e Y9 ⟨rfl, hb⟩
    rw [nm_f9]
    replace HL0 := hid (HL0.out.below hb)
    replace HT0 := hid (HT0.out.below hb)
    replace HL1 := hid (HL1.out.below hb)
    replace HT1 := hid (HT1.out.below hb)
    replace HL2 := hid (HL2.out.below hb)
    replace HT2 := hid (HT2.out.below hb)
    replace HL3 := hid (HL3.out.below hb)
    replace HT3 := hid (HT3.out.below hb)
    replace HL4 := hid (HL4.out.below hb)
    replace HT4 := hid (HT4.out.below hb)
    replace HR3 := hid (HR3.out.below hb)
    replace HL5 := hid (HL5.out.below hb)
    replace HT5 := hid (HT5.out.below hb)
    replace HL6 := hid (HL6.out.below hb)
    replace HT6 := hid (HT6.out.below hb)
    replace HL7 := hid (HL7.out.below hb)
    replace HT7 := hid (HT7.out.below hb)
    replace HB0 := hid (HB0.out.below hb)
    replace HB1 := hid (HB1.out.below hb)
    replace HB2 := hid (HB2.out.below hb)
    replace HB3 := hid (HB3.out.below hb)
    replace HB4 := hid (HB4.out.below hb)
    replace HB5 := hid (HB5.out.below hb)
    replace HB6 := hid (HB6.out.below hb)
    replace HB7 := hid (HB7.out.below hb)
    replace HM := hid (HM.out.below hb)
    replace HL8 := hid (HL8.out.below hb)
    replace HT8 := hid (HT8.out.below hb)
    replace HB8 := hid (HB8.out.below hb)
    replace HL9 := hid (HL9.out.below hb)
    replace HW := hid (HW.out.trans (hb.mono HW.out.size))
    clear hb
    go_wp2_with fail
    refine (awake_any _).mono ?_
    rintro e Y10 ⟨rfl, hb⟩
    go_wp2_with fail
    go_ret
    exact ⟨rfl, HW.out.trans (hb.mono HW.out.size)⟩
end Go.Proofs.Ytaioobhblfnlaaa
