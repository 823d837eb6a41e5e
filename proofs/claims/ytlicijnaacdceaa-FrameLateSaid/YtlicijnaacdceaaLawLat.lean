/- FrameLate returns true for every survey whose counts' slice has at most its capacity: a late count changes no bounds; if it is no longer late, they are not wider. No other condition. -/
import Derived.Test.YtlicijnaacdceaaLawH
import Derived.Test.YtlicijnaacdceaaLawLft
import Derived.Deep.Cut
namespace Go.Proofs.Ytlicijnaacdceaa
open Go.RowKit

set_option maxRecDepth 40000 in
set_option maxHeartbeats 32000000 in
theorem frameLate_any (r cc : Int) (p : Option Addr) (n c : Nat) (l : List Int) (sm : Int) (q : Option Addr) (m d : Nat) (cs : List Cnt) (y : Int) (w : World) (hl : IntsAt w p n l) (hcs : CntsAt w q m cs) (hy : 0 ≤ y ∧ y ≤ 255) (hmd : m ≤ d) :
    Calls Try.prog 9 #[.agg #[.int .i64 r, .int .i64 cc, .slice p n c, .int .i64 sm, .slice q m d], .int .u8 y] w fun e w' => e = .returned (.bool true) ∧ Below w.heap.size w w' := by
  have HSV : Hid (∀ V, Below (w.heap.size + 1) (w.alloc (.cells #[.int .i64 r, .int .i64 cc, .slice p n c, .int .i64 sm, .slice q m d] 27)) V → SAt w r cc p n c l sm q m d cs V) := by
    intro V hV
    have h1 : Below w.heap.size w V := ((Below.refl _ _).alloc (Nat.le_refl _) _).trans (hV.mono (by omega))
    exact ⟨Boxed1.step' (Boxed1.start _ _ _) hV, hl.below h1, hcs.below h1⟩
  have HIW := hid hl; have HCW := hid hcs; have HY := hid hy; have HMD := hid hmd
  have HS1 := hid (HSV.out _ (Below.refl _ _))
  clear hl hcs hy hmd
  have g0 := HS1.out.c0; have g1 := HS1.out.c1; have g2 := HS1.out.c2; have g3 := HS1.out.c3; have g4 := HS1.out.c4
  obtain ⟨cb, hcb⟩ : ∃ a, (thinB n m && decide (faultL r cc l sm cs = 0)) = a := ⟨_, rfl⟩
  have HCB := hid hcb
  by_cases hm0 : m = 0
  · have HM0 : Hid ((m : Int) = 0) := by show (m : Int) = 0; omega
    clear hm0
    go_enter Try.func9, Try.ntmps9
    go_wp2_with fail
    refine (ready_any r cc p n c l sm q m d cs _ HS1.out.ints HS1.out.cnts).mono ?_
    rintro e w2 ⟨rfl, hb⟩
    have HS2 := hid (HS1.out.step hb)
    rw [hcb]
    clear hcb
    clear hb g0 g1 g2 g3 g4
    have g0 := HS2.out.c0; have g1 := HS2.out.c1; have g2 := HS2.out.c2; have g3 := HS2.out.c3; have g4 := HS2.out.c4
    cases cb with
    | true =>
      have hm0i : (m : Int) = 0 := HM0.out
      have hm0b : ((m : Int) == 0) = true := by simp [hm0i]
      clear hm0i
      go_wp2_with fail
      refine (awake_any _).mono ?_
      rintro e w99 ⟨rfl, hb⟩
      go_wp2_with fail
      go_ret
      exact ⟨rfl, HS2.out.below.trans (hb.mono HS2.out.below.size)⟩
    | false =>
      go_wp2_with fail
      refine (awake_any _).mono ?_
      rintro e w99 ⟨rfl, hb⟩
      go_wp2_with fail
      go_ret
      exact ⟨rfl, HS2.out.below.trans (hb.mono HS2.out.below.size)⟩
  · have hm0i : ¬ (m : Int) = 0 := by omega
    have hm0b : ((m : Int) == 0) = false := by simp [hm0]
    go_enter Try.func9, Try.ntmps9
    go_wp2_with fail
    refine (ready_any r cc p n c l sm q m d cs _ HS1.out.ints HS1.out.cnts).mono ?_
    rintro e w2 ⟨rfl, hb⟩
    have HS2 := hid (HS1.out.step hb)
    rw [hcb]
    clear hcb
    have HBW := hid (show Below (w.heap.size + 1) (w.alloc (.cells #[.int .i64 r, .int .i64 cc, .slice p n c, .int .i64 sm, .slice q m d] 27)) w2 from by rw [← World.size_alloc w (.cells #[.int .i64 r, .int .i64 cc, .slice p n c, .int .i64 sm, .slice q m d] 27)]; exact hb)
    clear hb g0 g1 g2 g3 g4
    have g0 := HS2.out.c0; have g1 := HS2.out.c1; have g2 := HS2.out.c2; have g3 := HS2.out.c3; have g4 := HS2.out.c4
    cases cb with
    | false =>
      go_wp2_with fail
      refine (awake_any _).mono ?_
      rintro e w99 ⟨rfl, hb⟩
      go_wp2_with fail
      go_ret
      exact ⟨rfl, HS2.out.below.trans (hb.mono HS2.out.below.size)⟩
    | true =>
      have hnm : n ≤ 12 ∧ m ≤ 9 := by have h := HCB.out; simp only [Bool.and_eq_true, thinB, decide_eq_true_eq] at h; exact h.1
      have HN := hid hnm
      clear hnm
      have hf : faultL r cc l sm cs = 0 := by have h := HCB.out; simp only [Bool.and_eq_true, decide_eq_true_eq] at h; exact h.2
      have HF := hid hf
      clear hf
      have HM1 : Hid (1 ≤ m) := by show 1 ≤ m; omega
      obtain ⟨ki, hki⟩ : ∃ a : Int, y % (m : Int) = a := ⟨_, rfl⟩
      have hkb : 0 ≤ ki ∧ ki < m := by rw [← hki]; exact ⟨Int.emod_nonneg _ (by omega), Int.emod_lt_of_pos _ (by omega)⟩
      obtain ⟨k, rfl⟩ : ∃ a : Nat, ki = (a : Int) := ⟨ki.toNat, by omega⟩
      have HKM : Hid (k < m) := by show k < m; omega
      have e2 : IntKind.i64.wrap y = y := IntWalk.i64_in _ (by have := HY.out; omega)
      have e6 : y.tmod (m : Int) = (k : Int) := by rw [Int.tmod_eq_emod_of_nonneg HY.out.1]; exact hki
      have e7 : IntKind.i64.wrap (k : Int) = (k : Int) := IntWalk.i64_in _ (by have := HN.out; omega)
      clear hki hkb
      go_upto_region 4 with fail
      clear e2 e6 e7
      go_cut [6, 7, 8] from 15 (fun v6 v7 v8 wr => ∃ bl bg ba : Nat, v6 = .pointer (some ⟨bl, 0, none⟩) ∧ v7 = .pointer (some ⟨bg, 0, none⟩) ∧ v8 = .pointer (some ⟨ba, 0, none⟩) ∧ (bl ≠ bg ∧ bl ≠ ba ∧ bg ≠ ba ∧ w.heap.size < bl ∧ w.heap.size < bg ∧ w.heap.size < ba) ∧ Below (w.heap.size + 1) (w.alloc (.cells #[.int .i64 r, .int .i64 cc, .slice p n c, .int .i64 sm, .slice q m d] 27)) wr ∧ BoxIs bl #[.int .i64 r, .int .i64 cc, .slice p n c, .int .i64 sm, .slice q m d] wr ∧ BoxIs bg #[.int .i64 r, .int .i64 cc, .slice p n c, .int .i64 sm, .slice q m d] wr ∧ BoxIs ba #[.int .i64 r, .int .i64 cc, .slice p n c, .int .i64 sm, .slice q m d] wr)
      case first =>
        have hB : Below (w.heap.size + 1) (w.alloc (.cells #[.int .i64 r, .int .i64 cc, .slice p n c, .int .i64 sm, .slice q m d] 27)) w2.drew := HBW.out.drew
        refine wp_region_held_drew (S := fun V => Below (w.heap.size + 1) (w.alloc (.cells #[.int .i64 r, .int .i64 cc, .slice p n c, .int .i64 sm, .slice q m d] 27)) V) (by kernel_rfl) (hB) (fun hS => ?_)
        simp only [List.size_toArray, List.length_cons, List.length_nil, Nat.reduceAdd, Array.replicate_succ, Array.replicate_zero, List.push_toArray, List.nil_append, List.cons_append]
        refine wpAnyH_take (i := 0) (v := ?_) rfl (by kernel_rfl) (by kernel_rfl) (by kernel_rfl) (fun _ _ _ h => h) (Or.inl ⟨by rfl, fun V hV => ?_⟩) (by assumption) ?_
        rotate_left
        · have g0 := (HSV.out V hV).c0; have g1 := (HSV.out V hV).c1; have g2 := (HSV.out V hV).c2; have g3 := (HSV.out V hV).c3; have g4 := (HSV.out V hV).c4; go_simp
          try with_reducible rfl
        try simp only [Act.put, List.getElem_toArray, List.getElem_cons_zero, List.setIfInBounds_toArray, List.set_cons_zero, List.set_cons_succ]
        refine wpAnyH_take (i := 1) (v := ?_) rfl (by kernel_rfl) (by kernel_rfl) (by kernel_rfl) (fun _ _ _ h => h) (Or.inl ⟨by rfl, fun V hV => ?_⟩) (by assumption) ?_
        rotate_left
        · have g0 := (HSV.out V hV).c0; have g1 := (HSV.out V hV).c1; have g2 := (HSV.out V hV).c2; have g3 := (HSV.out V hV).c3; have g4 := (HSV.out V hV).c4; go_simp
          try with_reducible rfl
        try simp only [Act.put, List.getElem_toArray, List.getElem_cons_zero, List.getElem_cons_succ, List.setIfInBounds_toArray, List.set_cons_zero, List.set_cons_succ]
        refine wpAnyH_take (i := 2) (v := ?_) rfl (by kernel_rfl) (by kernel_rfl) (by kernel_rfl) (fun _ _ _ h => h) (Or.inl ⟨by rfl, fun V hV => ?_⟩) (by assumption) ?_
        rotate_left
        · have g0 := (HSV.out V hV).c0; have g1 := (HSV.out V hV).c1; have g2 := (HSV.out V hV).c2; have g3 := (HSV.out V hV).c3; have g4 := (HSV.out V hV).c4; go_simp
          try with_reducible rfl
        try simp only [Act.put, List.getElem_toArray, List.getElem_cons_zero, List.getElem_cons_succ, List.setIfInBounds_toArray, List.set_cons_zero, List.set_cons_succ]
        refine wpAnyH_ready (rs := [3, 4, 5]) (by kernel_rfl) (by simp) ?_
        refine AllReadyH.cons (o := _) rfl (fun K hK => ?_) ?_
        · skip
          obtain ⟨V3, hV3⟩ : ∃ V, (w2.drew).alloc (.cells #[.int .i64 0, .int .i64 0, .slice none 0 0, .int .i64 0, .slice none 0 0] 27) = V := ⟨_, rfl⟩
          have hb : Below (w2.drew).heap.size (w2.drew) V3 := by rw [← hV3]; exact (Below.refl _ _).alloc (Nat.le_refl _) _
          have h6 : BoxIs w2.heap.size #[.int .i64 0, .int .i64 0, .slice none 0 0, .int .i64 0, .slice none 0 0] V3 := by rw [← hV3]; exact BoxIs.start _ _ _
          have hz3 : Hid (V3.heap.size = w2.heap.size + 1) := by rw [← hV3]; exact World.size_alloc _ _
          have hge3 : Hid (w.heap.size + 1 ≤ w2.heap.size) := by have h8 := hB.size; rw [World.size_alloc] at h8; exact h8
          replace hB := hB.trans (hb.mono hge3.out)
          clear hb
          go_simp
          refine hK.out _ _ (hB) (fun hS => ?_)
          clear hK K
          try simp only [List.setIfInBounds_toArray, List.set_cons_zero, List.set_cons_succ]
          refine wpAnyH_ready (rs := [4, 5]) (by kernel_rfl) (by simp) ?_
          refine AllReadyH.cons (o := _) rfl (fun K hK => ?_) ?_
          · skip
            obtain ⟨V4, hV4⟩ : ∃ V, (V3).alloc (.cells #[.int .i64 0, .int .i64 0, .slice none 0 0, .int .i64 0, .slice none 0 0] 27) = V := ⟨_, rfl⟩
            have hb : Below (V3).heap.size (V3) V4 := by rw [← hV4]; exact (Below.refl _ _).alloc (Nat.le_refl _) _
            have h7 : BoxIs V3.heap.size #[.int .i64 0, .int .i64 0, .slice none 0 0, .int .i64 0, .slice none 0 0] V4 := by rw [← hV4]; exact BoxIs.start _ _ _
            have hz4 : Hid (V4.heap.size = V3.heap.size + 1) := by rw [← hV4]; exact World.size_alloc _ _
            have hge4 : Hid (w.heap.size + 1 ≤ V3.heap.size) := by have h8 := hB.size; rw [World.size_alloc] at h8; exact h8
            have h6 := h6.below hb
            replace hB := hB.trans (hb.mono hge4.out)
            clear hb
            go_simp
            refine hK.out _ _ (hB) (fun hS => ?_)
            clear hK K
            try simp only [List.setIfInBounds_toArray, List.set_cons_zero, List.set_cons_succ]
            refine wpAnyH_ready (rs := [5]) (by kernel_rfl) (by simp) ?_
            refine AllReadyH.cons (o := _) rfl (fun K hK => ?_) AllReadyH.nil
            obtain ⟨V5, hV5⟩ : ∃ V, (V4).alloc (.cells #[.int .i64 0, .int .i64 0, .slice none 0 0, .int .i64 0, .slice none 0 0] 27) = V := ⟨_, rfl⟩
            have hb : Below (V4).heap.size (V4) V5 := by rw [← hV5]; exact (Below.refl _ _).alloc (Nat.le_refl _) _
            have h8 : BoxIs V4.heap.size #[.int .i64 0, .int .i64 0, .slice none 0 0, .int .i64 0, .slice none 0 0] V5 := by rw [← hV5]; exact BoxIs.start _ _ _
            have hz5 : Hid (V5.heap.size = V4.heap.size + 1) := by rw [← hV5]; exact World.size_alloc _ _
            have hge5 : Hid (w.heap.size + 1 ≤ V4.heap.size) := by have h8 := hB.size; rw [World.size_alloc] at h8; exact h8
            have h6 := h6.below hb
            have h7 := h7.below hb
            replace hB := hB.trans (hb.mono hge5.out)
            clear hb
            go_simp
            refine hK.out _ _ (hB) (fun hS => ?_)
            clear hK K
            try simp only [List.setIfInBounds_toArray, List.set_cons_zero, List.set_cons_succ]
            refine wpAnyH_ready (rs := [6]) (by kernel_rfl) (by simp) ?_
            refine AllReadyH.cons (o := _) rfl (fun K hK => ?_) AllReadyH.nil
            have hza := hz3.out; have hzb := hz4.out; have hzc := hz5.out
            have HNE34 : Hid (V3.heap.size ≠ w2.heap.size) := by show _ ≠ _; omega
            have HNE35 : Hid (V4.heap.size ≠ w2.heap.size) := by show _ ≠ _; omega
            clear hza hzb hzc
            have k0 := (h6.2 0 _ rfl).1; have f0 := (h6.2 0 _ rfl).2; have k1 := (h6.2 1 _ rfl).1; have f1 := (h6.2 1 _ rfl).2; have k2 := (h6.2 2 _ rfl).1; have f2 := (h6.2 2 _ rfl).2; have k3 := (h6.2 3 _ rfl).1; have f3 := (h6.2 3 _ rfl).2; have k4 := (h6.2 4 _ rfl).1; have f4 := (h6.2 4 _ rfl).2
            go_simp
            obtain ⟨V6, hV6⟩ : ∃ V, (((((V5).setCell ⟨w2.heap.size, 0, none⟩ (.int .i64 r)).setCell ⟨w2.heap.size, 1, none⟩ (.int .i64 cc)).setCell ⟨w2.heap.size, 2, none⟩ (.slice p n c)).setCell ⟨w2.heap.size, 3, none⟩ (.int .i64 sm)).setCell ⟨w2.heap.size, 4, none⟩ (.slice q m d) = V := ⟨_, rfl⟩
            have hB2 : Below (w.heap.size + 1) (w.alloc (.cells #[.int .i64 r, .int .i64 cc, .slice p n c, .int .i64 sm, .slice q m d] 27)) V6 := by rw [← hV6]; exact ((((hB.setCell (p := ⟨_, 0, none⟩) hge3.out _).setCell (p := ⟨_, 1, none⟩) hge3.out _).setCell (p := ⟨_, 2, none⟩) hge3.out _).setCell (p := ⟨_, 3, none⟩) hge3.out _).setCell (p := ⟨_, 4, none⟩) hge3.out _
            have h6n : BoxIs w2.heap.size #[.int .i64 r, .int .i64 cc, .slice p n c, .int .i64 sm, .slice q m d] V6 := by rw [← hV6]; exact ((((h6.put (j := 0) (.int .i64 r)).put (j := 1) (.int .i64 cc)).put (j := 2) (.slice p n c)).put (j := 3) (.int .i64 sm)).put (j := 4) (.slice q m d)
            have h7 : BoxIs V3.heap.size #[.int .i64 0, .int .i64 0, .slice none 0 0, .int .i64 0, .slice none 0 0] V6 := by rw [← hV6]; exact ((((h7.other (k' := 0) HNE34.out (.int .i64 r)).other (k' := 1) HNE34.out (.int .i64 cc)).other (k' := 2) HNE34.out (.slice p n c)).other (k' := 3) HNE34.out (.int .i64 sm)).other (k' := 4) HNE34.out (.slice q m d)
            have h8 : BoxIs V4.heap.size #[.int .i64 0, .int .i64 0, .slice none 0 0, .int .i64 0, .slice none 0 0] V6 := by rw [← hV6]; exact ((((h8.other (k' := 0) HNE35.out (.int .i64 r)).other (k' := 1) HNE35.out (.int .i64 cc)).other (k' := 2) HNE35.out (.slice p n c)).other (k' := 3) HNE35.out (.int .i64 sm)).other (k' := 4) HNE35.out (.slice q m d)
            have h6 := h6n
            have hB := hB2
            clear hB2 h6n k0 f0 k1 f1 k2 f2 k3 f3 k4 f4
            rw [hV6]
            refine hK.out _ _ (hB) (fun hS => ?_)
            clear hK K
            try simp only [List.setIfInBounds_toArray, List.set_cons_zero, List.set_cons_succ]
            refine wpAnyH_ready (rs := [7]) (by kernel_rfl) (by simp) ?_
            refine AllReadyH.cons (o := _) rfl (fun K hK => ?_) AllReadyH.nil
            have hza := hz3.out; have hzb := hz4.out; have hzc := hz5.out
            have HNE43 : Hid (w2.heap.size ≠ V3.heap.size) := by show _ ≠ _; omega
            have HNE45 : Hid (V4.heap.size ≠ V3.heap.size) := by show _ ≠ _; omega
            clear hza hzb hzc
            have k0 := (h7.2 0 _ rfl).1; have f0 := (h7.2 0 _ rfl).2; have k1 := (h7.2 1 _ rfl).1; have f1 := (h7.2 1 _ rfl).2; have k2 := (h7.2 2 _ rfl).1; have f2 := (h7.2 2 _ rfl).2; have k3 := (h7.2 3 _ rfl).1; have f3 := (h7.2 3 _ rfl).2; have k4 := (h7.2 4 _ rfl).1; have f4 := (h7.2 4 _ rfl).2
            go_simp
            obtain ⟨V7, hV7⟩ : ∃ V, (((((V6).setCell ⟨V3.heap.size, 0, none⟩ (.int .i64 r)).setCell ⟨V3.heap.size, 1, none⟩ (.int .i64 cc)).setCell ⟨V3.heap.size, 2, none⟩ (.slice p n c)).setCell ⟨V3.heap.size, 3, none⟩ (.int .i64 sm)).setCell ⟨V3.heap.size, 4, none⟩ (.slice q m d) = V := ⟨_, rfl⟩
            have hB2 : Below (w.heap.size + 1) (w.alloc (.cells #[.int .i64 r, .int .i64 cc, .slice p n c, .int .i64 sm, .slice q m d] 27)) V7 := by rw [← hV7]; exact ((((hB.setCell (p := ⟨_, 0, none⟩) hge4.out _).setCell (p := ⟨_, 1, none⟩) hge4.out _).setCell (p := ⟨_, 2, none⟩) hge4.out _).setCell (p := ⟨_, 3, none⟩) hge4.out _).setCell (p := ⟨_, 4, none⟩) hge4.out _
            have h7n : BoxIs V3.heap.size #[.int .i64 r, .int .i64 cc, .slice p n c, .int .i64 sm, .slice q m d] V7 := by rw [← hV7]; exact ((((h7.put (j := 0) (.int .i64 r)).put (j := 1) (.int .i64 cc)).put (j := 2) (.slice p n c)).put (j := 3) (.int .i64 sm)).put (j := 4) (.slice q m d)
            have h6 : BoxIs w2.heap.size #[.int .i64 r, .int .i64 cc, .slice p n c, .int .i64 sm, .slice q m d] V7 := by rw [← hV7]; exact ((((h6.other (k' := 0) HNE43.out (.int .i64 r)).other (k' := 1) HNE43.out (.int .i64 cc)).other (k' := 2) HNE43.out (.slice p n c)).other (k' := 3) HNE43.out (.int .i64 sm)).other (k' := 4) HNE43.out (.slice q m d)
            have h8 : BoxIs V4.heap.size #[.int .i64 0, .int .i64 0, .slice none 0 0, .int .i64 0, .slice none 0 0] V7 := by rw [← hV7]; exact ((((h8.other (k' := 0) HNE45.out (.int .i64 r)).other (k' := 1) HNE45.out (.int .i64 cc)).other (k' := 2) HNE45.out (.slice p n c)).other (k' := 3) HNE45.out (.int .i64 sm)).other (k' := 4) HNE45.out (.slice q m d)
            have h7 := h7n
            have hB := hB2
            clear hB2 h7n k0 f0 k1 f1 k2 f2 k3 f3 k4 f4
            rw [hV7]
            refine hK.out _ _ (hB) (fun hS => ?_)
            clear hK K
            try simp only [List.setIfInBounds_toArray, List.set_cons_zero, List.set_cons_succ]
            refine wpAnyH_ready (rs := [8]) (by kernel_rfl) (by simp) ?_
            refine AllReadyH.cons (o := _) rfl (fun K hK => ?_) AllReadyH.nil
            have hza := hz3.out; have hzb := hz4.out; have hzc := hz5.out
            have HNE53 : Hid (w2.heap.size ≠ V4.heap.size) := by show _ ≠ _; omega
            have HNE54 : Hid (V3.heap.size ≠ V4.heap.size) := by show _ ≠ _; omega
            clear hza hzb hzc
            have k0 := (h8.2 0 _ rfl).1; have f0 := (h8.2 0 _ rfl).2; have k1 := (h8.2 1 _ rfl).1; have f1 := (h8.2 1 _ rfl).2; have k2 := (h8.2 2 _ rfl).1; have f2 := (h8.2 2 _ rfl).2; have k3 := (h8.2 3 _ rfl).1; have f3 := (h8.2 3 _ rfl).2; have k4 := (h8.2 4 _ rfl).1; have f4 := (h8.2 4 _ rfl).2
            go_simp
            obtain ⟨V8, hV8⟩ : ∃ V, (((((V7).setCell ⟨V4.heap.size, 0, none⟩ (.int .i64 r)).setCell ⟨V4.heap.size, 1, none⟩ (.int .i64 cc)).setCell ⟨V4.heap.size, 2, none⟩ (.slice p n c)).setCell ⟨V4.heap.size, 3, none⟩ (.int .i64 sm)).setCell ⟨V4.heap.size, 4, none⟩ (.slice q m d) = V := ⟨_, rfl⟩
            have hB2 : Below (w.heap.size + 1) (w.alloc (.cells #[.int .i64 r, .int .i64 cc, .slice p n c, .int .i64 sm, .slice q m d] 27)) V8 := by rw [← hV8]; exact ((((hB.setCell (p := ⟨_, 0, none⟩) hge5.out _).setCell (p := ⟨_, 1, none⟩) hge5.out _).setCell (p := ⟨_, 2, none⟩) hge5.out _).setCell (p := ⟨_, 3, none⟩) hge5.out _).setCell (p := ⟨_, 4, none⟩) hge5.out _
            have h8n : BoxIs V4.heap.size #[.int .i64 r, .int .i64 cc, .slice p n c, .int .i64 sm, .slice q m d] V8 := by rw [← hV8]; exact ((((h8.put (j := 0) (.int .i64 r)).put (j := 1) (.int .i64 cc)).put (j := 2) (.slice p n c)).put (j := 3) (.int .i64 sm)).put (j := 4) (.slice q m d)
            have h6 : BoxIs w2.heap.size #[.int .i64 r, .int .i64 cc, .slice p n c, .int .i64 sm, .slice q m d] V8 := by rw [← hV8]; exact ((((h6.other (k' := 0) HNE53.out (.int .i64 r)).other (k' := 1) HNE53.out (.int .i64 cc)).other (k' := 2) HNE53.out (.slice p n c)).other (k' := 3) HNE53.out (.int .i64 sm)).other (k' := 4) HNE53.out (.slice q m d)
            have h7 : BoxIs V3.heap.size #[.int .i64 r, .int .i64 cc, .slice p n c, .int .i64 sm, .slice q m d] V8 := by rw [← hV8]; exact ((((h7.other (k' := 0) HNE54.out (.int .i64 r)).other (k' := 1) HNE54.out (.int .i64 cc)).other (k' := 2) HNE54.out (.slice p n c)).other (k' := 3) HNE54.out (.int .i64 sm)).other (k' := 4) HNE54.out (.slice q m d)
            have h8 := h8n
            have hB := hB2
            clear hB2 h8n k0 f0 k1 f1 k2 f2 k3 f3 k4 f4
            rw [hV8]
            refine hK.out _ _ (hB) (fun hS => ?_)
            clear hK K
            try simp only [List.setIfInBounds_toArray, List.set_cons_zero, List.set_cons_succ]
            refine wpAnyH_done (by kernel_rfl) ?_ _
            clear hS
            have hza := hz3.out; have hzb := hz4.out; have hzc := hz5.out; have hya := hge3.out; have hyb := hge4.out; have hyc := hge5.out
            have hx1 := hid hza; have hx2 := hid hzb; have hx3 := hid hzc; have hx4 := hid hya; have hx5 := hid hyb; have hx6 := hid hyc
            clear hza hzb hzc hya hyb hyc
            go_wp2
            go_meet
            case rel => exact ⟨_, _, _, rfl, rfl, rfl, (by have h1 := hx1.out; have h2 := hx2.out; have h3 := hx3.out; have h4 := hx4.out; have h5 := hx5.out; have h6 := hx6.out; refine ⟨?_, ?_, ?_, ?_, ?_, ?_⟩ <;> omega), hB, h6, h7, h8⟩
          refine AllReadyH.cons (o := _) rfl (fun K hK => ?_) AllReadyH.nil
          obtain ⟨V5, hV5⟩ : ∃ V, (V3).alloc (.cells #[.int .i64 0, .int .i64 0, .slice none 0 0, .int .i64 0, .slice none 0 0] 27) = V := ⟨_, rfl⟩
          have hb : Below (V3).heap.size (V3) V5 := by rw [← hV5]; exact (Below.refl _ _).alloc (Nat.le_refl _) _
          have h8 : BoxIs V3.heap.size #[.int .i64 0, .int .i64 0, .slice none 0 0, .int .i64 0, .slice none 0 0] V5 := by rw [← hV5]; exact BoxIs.start _ _ _
          have hz5 : Hid (V5.heap.size = V3.heap.size + 1) := by rw [← hV5]; exact World.size_alloc _ _
          have hge5 : Hid (w.heap.size + 1 ≤ V3.heap.size) := by have h8 := hB.size; rw [World.size_alloc] at h8; exact h8
          have h6 := h6.below hb
          replace hB := hB.trans (hb.mono hge5.out)
          clear hb
          go_simp
          refine hK.out _ _ (hB) (fun hS => ?_)
          clear hK K
          try simp only [List.setIfInBounds_toArray, List.set_cons_zero, List.set_cons_succ]
          refine wpAnyH_ready (rs := [4]) (by kernel_rfl) (by simp) ?_
          refine AllReadyH.cons (o := _) rfl (fun K hK => ?_) AllReadyH.nil
          obtain ⟨V4, hV4⟩ : ∃ V, (V5).alloc (.cells #[.int .i64 0, .int .i64 0, .slice none 0 0, .int .i64 0, .slice none 0 0] 27) = V := ⟨_, rfl⟩
          have hb : Below (V5).heap.size (V5) V4 := by rw [← hV4]; exact (Below.refl _ _).alloc (Nat.le_refl _) _
          have h7 : BoxIs V5.heap.size #[.int .i64 0, .int .i64 0, .slice none 0 0, .int .i64 0, .slice none 0 0] V4 := by rw [← hV4]; exact BoxIs.start _ _ _
          have hz4 : Hid (V4.heap.size = V5.heap.size + 1) := by rw [← hV4]; exact World.size_alloc _ _
          have hge4 : Hid (w.heap.size + 1 ≤ V5.heap.size) := by have h8 := hB.size; rw [World.size_alloc] at h8; exact h8
          have h6 := h6.below hb
          have h8 := h8.below hb
          replace hB := hB.trans (hb.mono hge4.out)
          clear hb
          go_simp
          refine hK.out _ _ (hB) (fun hS => ?_)
          clear hK K
          try simp only [List.setIfInBounds_toArray, List.set_cons_zero, List.set_cons_succ]
          refine wpAnyH_ready (rs := [6]) (by kernel_rfl) (by simp) ?_
          refine AllReadyH.cons (o := _) rfl (fun K hK => ?_) AllReadyH.nil
          have hza := hz3.out; have hzb := hz4.out; have hzc := hz5.out
          have HNE34 : Hid (V5.heap.size ≠ w2.heap.size) := by show _ ≠ _; omega
          have HNE35 : Hid (V3.heap.size ≠ w2.heap.size) := by show _ ≠ _; omega
          clear hza hzb hzc
          have k0 := (h6.2 0 _ rfl).1; have f0 := (h6.2 0 _ rfl).2; have k1 := (h6.2 1 _ rfl).1; have f1 := (h6.2 1 _ rfl).2; have k2 := (h6.2 2 _ rfl).1; have f2 := (h6.2 2 _ rfl).2; have k3 := (h6.2 3 _ rfl).1; have f3 := (h6.2 3 _ rfl).2; have k4 := (h6.2 4 _ rfl).1; have f4 := (h6.2 4 _ rfl).2
          go_simp
          obtain ⟨V6, hV6⟩ : ∃ V, (((((V4).setCell ⟨w2.heap.size, 0, none⟩ (.int .i64 r)).setCell ⟨w2.heap.size, 1, none⟩ (.int .i64 cc)).setCell ⟨w2.heap.size, 2, none⟩ (.slice p n c)).setCell ⟨w2.heap.size, 3, none⟩ (.int .i64 sm)).setCell ⟨w2.heap.size, 4, none⟩ (.slice q m d) = V := ⟨_, rfl⟩
          have hB2 : Below (w.heap.size + 1) (w.alloc (.cells #[.int .i64 r, .int .i64 cc, .slice p n c, .int .i64 sm, .slice q m d] 27)) V6 := by rw [← hV6]; exact ((((hB.setCell (p := ⟨_, 0, none⟩) hge3.out _).setCell (p := ⟨_, 1, none⟩) hge3.out _).setCell (p := ⟨_, 2, none⟩) hge3.out _).setCell (p := ⟨_, 3, none⟩) hge3.out _).setCell (p := ⟨_, 4, none⟩) hge3.out _
          have h6n : BoxIs w2.heap.size #[.int .i64 r, .int .i64 cc, .slice p n c, .int .i64 sm, .slice q m d] V6 := by rw [← hV6]; exact ((((h6.put (j := 0) (.int .i64 r)).put (j := 1) (.int .i64 cc)).put (j := 2) (.slice p n c)).put (j := 3) (.int .i64 sm)).put (j := 4) (.slice q m d)
          have h7 : BoxIs V5.heap.size #[.int .i64 0, .int .i64 0, .slice none 0 0, .int .i64 0, .slice none 0 0] V6 := by rw [← hV6]; exact ((((h7.other (k' := 0) HNE34.out (.int .i64 r)).other (k' := 1) HNE34.out (.int .i64 cc)).other (k' := 2) HNE34.out (.slice p n c)).other (k' := 3) HNE34.out (.int .i64 sm)).other (k' := 4) HNE34.out (.slice q m d)
          have h8 : BoxIs V3.heap.size #[.int .i64 0, .int .i64 0, .slice none 0 0, .int .i64 0, .slice none 0 0] V6 := by rw [← hV6]; exact ((((h8.other (k' := 0) HNE35.out (.int .i64 r)).other (k' := 1) HNE35.out (.int .i64 cc)).other (k' := 2) HNE35.out (.slice p n c)).other (k' := 3) HNE35.out (.int .i64 sm)).other (k' := 4) HNE35.out (.slice q m d)
          have h6 := h6n
          have hB := hB2
          clear hB2 h6n k0 f0 k1 f1 k2 f2 k3 f3 k4 f4
          rw [hV6]
          refine hK.out _ _ (hB) (fun hS => ?_)
          clear hK K
          try simp only [List.setIfInBounds_toArray, List.set_cons_zero, List.set_cons_succ]
          refine wpAnyH_ready (rs := [7]) (by kernel_rfl) (by simp) ?_
          refine AllReadyH.cons (o := _) rfl (fun K hK => ?_) AllReadyH.nil
          have hza := hz3.out; have hzb := hz4.out; have hzc := hz5.out
          have HNE43 : Hid (w2.heap.size ≠ V5.heap.size) := by show _ ≠ _; omega
          have HNE45 : Hid (V3.heap.size ≠ V5.heap.size) := by show _ ≠ _; omega
          clear hza hzb hzc
          have k0 := (h7.2 0 _ rfl).1; have f0 := (h7.2 0 _ rfl).2; have k1 := (h7.2 1 _ rfl).1; have f1 := (h7.2 1 _ rfl).2; have k2 := (h7.2 2 _ rfl).1; have f2 := (h7.2 2 _ rfl).2; have k3 := (h7.2 3 _ rfl).1; have f3 := (h7.2 3 _ rfl).2; have k4 := (h7.2 4 _ rfl).1; have f4 := (h7.2 4 _ rfl).2
          go_simp
          obtain ⟨V7, hV7⟩ : ∃ V, (((((V6).setCell ⟨V5.heap.size, 0, none⟩ (.int .i64 r)).setCell ⟨V5.heap.size, 1, none⟩ (.int .i64 cc)).setCell ⟨V5.heap.size, 2, none⟩ (.slice p n c)).setCell ⟨V5.heap.size, 3, none⟩ (.int .i64 sm)).setCell ⟨V5.heap.size, 4, none⟩ (.slice q m d) = V := ⟨_, rfl⟩
          have hB2 : Below (w.heap.size + 1) (w.alloc (.cells #[.int .i64 r, .int .i64 cc, .slice p n c, .int .i64 sm, .slice q m d] 27)) V7 := by rw [← hV7]; exact ((((hB.setCell (p := ⟨_, 0, none⟩) hge4.out _).setCell (p := ⟨_, 1, none⟩) hge4.out _).setCell (p := ⟨_, 2, none⟩) hge4.out _).setCell (p := ⟨_, 3, none⟩) hge4.out _).setCell (p := ⟨_, 4, none⟩) hge4.out _
          have h7n : BoxIs V5.heap.size #[.int .i64 r, .int .i64 cc, .slice p n c, .int .i64 sm, .slice q m d] V7 := by rw [← hV7]; exact ((((h7.put (j := 0) (.int .i64 r)).put (j := 1) (.int .i64 cc)).put (j := 2) (.slice p n c)).put (j := 3) (.int .i64 sm)).put (j := 4) (.slice q m d)
          have h6 : BoxIs w2.heap.size #[.int .i64 r, .int .i64 cc, .slice p n c, .int .i64 sm, .slice q m d] V7 := by rw [← hV7]; exact ((((h6.other (k' := 0) HNE43.out (.int .i64 r)).other (k' := 1) HNE43.out (.int .i64 cc)).other (k' := 2) HNE43.out (.slice p n c)).other (k' := 3) HNE43.out (.int .i64 sm)).other (k' := 4) HNE43.out (.slice q m d)
          have h8 : BoxIs V3.heap.size #[.int .i64 0, .int .i64 0, .slice none 0 0, .int .i64 0, .slice none 0 0] V7 := by rw [← hV7]; exact ((((h8.other (k' := 0) HNE45.out (.int .i64 r)).other (k' := 1) HNE45.out (.int .i64 cc)).other (k' := 2) HNE45.out (.slice p n c)).other (k' := 3) HNE45.out (.int .i64 sm)).other (k' := 4) HNE45.out (.slice q m d)
          have h7 := h7n
          have hB := hB2
          clear hB2 h7n k0 f0 k1 f1 k2 f2 k3 f3 k4 f4
          rw [hV7]
          refine hK.out _ _ (hB) (fun hS => ?_)
          clear hK K
          try simp only [List.setIfInBounds_toArray, List.set_cons_zero, List.set_cons_succ]
          refine wpAnyH_ready (rs := [8]) (by kernel_rfl) (by simp) ?_
          refine AllReadyH.cons (o := _) rfl (fun K hK => ?_) AllReadyH.nil
          have hza := hz3.out; have hzb := hz4.out; have hzc := hz5.out
          have HNE53 : Hid (w2.heap.size ≠ V3.heap.size) := by show _ ≠ _; omega
          have HNE54 : Hid (V5.heap.size ≠ V3.heap.size) := by show _ ≠ _; omega
          clear hza hzb hzc
          have k0 := (h8.2 0 _ rfl).1; have f0 := (h8.2 0 _ rfl).2; have k1 := (h8.2 1 _ rfl).1; have f1 := (h8.2 1 _ rfl).2; have k2 := (h8.2 2 _ rfl).1; have f2 := (h8.2 2 _ rfl).2; have k3 := (h8.2 3 _ rfl).1; have f3 := (h8.2 3 _ rfl).2; have k4 := (h8.2 4 _ rfl).1; have f4 := (h8.2 4 _ rfl).2
          go_simp
          obtain ⟨V8, hV8⟩ : ∃ V, (((((V7).setCell ⟨V3.heap.size, 0, none⟩ (.int .i64 r)).setCell ⟨V3.heap.size, 1, none⟩ (.int .i64 cc)).setCell ⟨V3.heap.size, 2, none⟩ (.slice p n c)).setCell ⟨V3.heap.size, 3, none⟩ (.int .i64 sm)).setCell ⟨V3.heap.size, 4, none⟩ (.slice q m d) = V := ⟨_, rfl⟩
          have hB2 : Below (w.heap.size + 1) (w.alloc (.cells #[.int .i64 r, .int .i64 cc, .slice p n c, .int .i64 sm, .slice q m d] 27)) V8 := by rw [← hV8]; exact ((((hB.setCell (p := ⟨_, 0, none⟩) hge5.out _).setCell (p := ⟨_, 1, none⟩) hge5.out _).setCell (p := ⟨_, 2, none⟩) hge5.out _).setCell (p := ⟨_, 3, none⟩) hge5.out _).setCell (p := ⟨_, 4, none⟩) hge5.out _
          have h8n : BoxIs V3.heap.size #[.int .i64 r, .int .i64 cc, .slice p n c, .int .i64 sm, .slice q m d] V8 := by rw [← hV8]; exact ((((h8.put (j := 0) (.int .i64 r)).put (j := 1) (.int .i64 cc)).put (j := 2) (.slice p n c)).put (j := 3) (.int .i64 sm)).put (j := 4) (.slice q m d)
          have h6 : BoxIs w2.heap.size #[.int .i64 r, .int .i64 cc, .slice p n c, .int .i64 sm, .slice q m d] V8 := by rw [← hV8]; exact ((((h6.other (k' := 0) HNE53.out (.int .i64 r)).other (k' := 1) HNE53.out (.int .i64 cc)).other (k' := 2) HNE53.out (.slice p n c)).other (k' := 3) HNE53.out (.int .i64 sm)).other (k' := 4) HNE53.out (.slice q m d)
          have h7 : BoxIs V5.heap.size #[.int .i64 r, .int .i64 cc, .slice p n c, .int .i64 sm, .slice q m d] V8 := by rw [← hV8]; exact ((((h7.other (k' := 0) HNE54.out (.int .i64 r)).other (k' := 1) HNE54.out (.int .i64 cc)).other (k' := 2) HNE54.out (.slice p n c)).other (k' := 3) HNE54.out (.int .i64 sm)).other (k' := 4) HNE54.out (.slice q m d)
          have h8 := h8n
          have hB := hB2
          clear hB2 h8n k0 f0 k1 f1 k2 f2 k3 f3 k4 f4
          rw [hV8]
          refine hK.out _ _ (hB) (fun hS => ?_)
          clear hK K
          try simp only [List.setIfInBounds_toArray, List.set_cons_zero, List.set_cons_succ]
          refine wpAnyH_done (by kernel_rfl) ?_ _
          clear hS
          have hza := hz3.out; have hzb := hz4.out; have hzc := hz5.out; have hya := hge3.out; have hyb := hge4.out; have hyc := hge5.out
          have hx1 := hid hza; have hx2 := hid hzb; have hx3 := hid hzc; have hx4 := hid hya; have hx5 := hid hyb; have hx6 := hid hyc
          clear hza hzb hzc hya hyb hyc
          go_wp2
          go_meet
          case rel => exact ⟨_, _, _, rfl, rfl, rfl, (by have h1 := hx1.out; have h2 := hx2.out; have h3 := hx3.out; have h4 := hx4.out; have h5 := hx5.out; have h6 := hx6.out; refine ⟨?_, ?_, ?_, ?_, ?_, ?_⟩ <;> omega), hB, h6, h7, h8⟩
        refine AllReadyH.cons (o := _) rfl (fun K hK => ?_) ?_
        · skip
          obtain ⟨V4, hV4⟩ : ∃ V, (w2.drew).alloc (.cells #[.int .i64 0, .int .i64 0, .slice none 0 0, .int .i64 0, .slice none 0 0] 27) = V := ⟨_, rfl⟩
          have hb : Below (w2.drew).heap.size (w2.drew) V4 := by rw [← hV4]; exact (Below.refl _ _).alloc (Nat.le_refl _) _
          have h7 : BoxIs w2.heap.size #[.int .i64 0, .int .i64 0, .slice none 0 0, .int .i64 0, .slice none 0 0] V4 := by rw [← hV4]; exact BoxIs.start _ _ _
          have hz4 : Hid (V4.heap.size = w2.heap.size + 1) := by rw [← hV4]; exact World.size_alloc _ _
          have hge4 : Hid (w.heap.size + 1 ≤ w2.heap.size) := by have h8 := hB.size; rw [World.size_alloc] at h8; exact h8
          replace hB := hB.trans (hb.mono hge4.out)
          clear hb
          go_simp
          refine hK.out _ _ (hB) (fun hS => ?_)
          clear hK K
          try simp only [List.setIfInBounds_toArray, List.set_cons_zero, List.set_cons_succ]
          refine wpAnyH_ready (rs := [3, 5]) (by kernel_rfl) (by simp) ?_
          refine AllReadyH.cons (o := _) rfl (fun K hK => ?_) ?_
          · skip
            obtain ⟨V3, hV3⟩ : ∃ V, (V4).alloc (.cells #[.int .i64 0, .int .i64 0, .slice none 0 0, .int .i64 0, .slice none 0 0] 27) = V := ⟨_, rfl⟩
            have hb : Below (V4).heap.size (V4) V3 := by rw [← hV3]; exact (Below.refl _ _).alloc (Nat.le_refl _) _
            have h6 : BoxIs V4.heap.size #[.int .i64 0, .int .i64 0, .slice none 0 0, .int .i64 0, .slice none 0 0] V3 := by rw [← hV3]; exact BoxIs.start _ _ _
            have hz3 : Hid (V3.heap.size = V4.heap.size + 1) := by rw [← hV3]; exact World.size_alloc _ _
            have hge3 : Hid (w.heap.size + 1 ≤ V4.heap.size) := by have h8 := hB.size; rw [World.size_alloc] at h8; exact h8
            have h7 := h7.below hb
            replace hB := hB.trans (hb.mono hge3.out)
            clear hb
            go_simp
            refine hK.out _ _ (hB) (fun hS => ?_)
            clear hK K
            try simp only [List.setIfInBounds_toArray, List.set_cons_zero, List.set_cons_succ]
            refine wpAnyH_ready (rs := [5]) (by kernel_rfl) (by simp) ?_
            refine AllReadyH.cons (o := _) rfl (fun K hK => ?_) AllReadyH.nil
            obtain ⟨V5, hV5⟩ : ∃ V, (V3).alloc (.cells #[.int .i64 0, .int .i64 0, .slice none 0 0, .int .i64 0, .slice none 0 0] 27) = V := ⟨_, rfl⟩
            have hb : Below (V3).heap.size (V3) V5 := by rw [← hV5]; exact (Below.refl _ _).alloc (Nat.le_refl _) _
            have h8 : BoxIs V3.heap.size #[.int .i64 0, .int .i64 0, .slice none 0 0, .int .i64 0, .slice none 0 0] V5 := by rw [← hV5]; exact BoxIs.start _ _ _
            have hz5 : Hid (V5.heap.size = V3.heap.size + 1) := by rw [← hV5]; exact World.size_alloc _ _
            have hge5 : Hid (w.heap.size + 1 ≤ V3.heap.size) := by have h8 := hB.size; rw [World.size_alloc] at h8; exact h8
            have h6 := h6.below hb
            have h7 := h7.below hb
            replace hB := hB.trans (hb.mono hge5.out)
            clear hb
            go_simp
            refine hK.out _ _ (hB) (fun hS => ?_)
            clear hK K
            try simp only [List.setIfInBounds_toArray, List.set_cons_zero, List.set_cons_succ]
            refine wpAnyH_ready (rs := [6]) (by kernel_rfl) (by simp) ?_
            refine AllReadyH.cons (o := _) rfl (fun K hK => ?_) AllReadyH.nil
            have hza := hz3.out; have hzb := hz4.out; have hzc := hz5.out
            have HNE34 : Hid (w2.heap.size ≠ V4.heap.size) := by show _ ≠ _; omega
            have HNE35 : Hid (V3.heap.size ≠ V4.heap.size) := by show _ ≠ _; omega
            clear hza hzb hzc
            have k0 := (h6.2 0 _ rfl).1; have f0 := (h6.2 0 _ rfl).2; have k1 := (h6.2 1 _ rfl).1; have f1 := (h6.2 1 _ rfl).2; have k2 := (h6.2 2 _ rfl).1; have f2 := (h6.2 2 _ rfl).2; have k3 := (h6.2 3 _ rfl).1; have f3 := (h6.2 3 _ rfl).2; have k4 := (h6.2 4 _ rfl).1; have f4 := (h6.2 4 _ rfl).2
            go_simp
            obtain ⟨V6, hV6⟩ : ∃ V, (((((V5).setCell ⟨V4.heap.size, 0, none⟩ (.int .i64 r)).setCell ⟨V4.heap.size, 1, none⟩ (.int .i64 cc)).setCell ⟨V4.heap.size, 2, none⟩ (.slice p n c)).setCell ⟨V4.heap.size, 3, none⟩ (.int .i64 sm)).setCell ⟨V4.heap.size, 4, none⟩ (.slice q m d) = V := ⟨_, rfl⟩
            have hB2 : Below (w.heap.size + 1) (w.alloc (.cells #[.int .i64 r, .int .i64 cc, .slice p n c, .int .i64 sm, .slice q m d] 27)) V6 := by rw [← hV6]; exact ((((hB.setCell (p := ⟨_, 0, none⟩) hge3.out _).setCell (p := ⟨_, 1, none⟩) hge3.out _).setCell (p := ⟨_, 2, none⟩) hge3.out _).setCell (p := ⟨_, 3, none⟩) hge3.out _).setCell (p := ⟨_, 4, none⟩) hge3.out _
            have h6n : BoxIs V4.heap.size #[.int .i64 r, .int .i64 cc, .slice p n c, .int .i64 sm, .slice q m d] V6 := by rw [← hV6]; exact ((((h6.put (j := 0) (.int .i64 r)).put (j := 1) (.int .i64 cc)).put (j := 2) (.slice p n c)).put (j := 3) (.int .i64 sm)).put (j := 4) (.slice q m d)
            have h7 : BoxIs w2.heap.size #[.int .i64 0, .int .i64 0, .slice none 0 0, .int .i64 0, .slice none 0 0] V6 := by rw [← hV6]; exact ((((h7.other (k' := 0) HNE34.out (.int .i64 r)).other (k' := 1) HNE34.out (.int .i64 cc)).other (k' := 2) HNE34.out (.slice p n c)).other (k' := 3) HNE34.out (.int .i64 sm)).other (k' := 4) HNE34.out (.slice q m d)
            have h8 : BoxIs V3.heap.size #[.int .i64 0, .int .i64 0, .slice none 0 0, .int .i64 0, .slice none 0 0] V6 := by rw [← hV6]; exact ((((h8.other (k' := 0) HNE35.out (.int .i64 r)).other (k' := 1) HNE35.out (.int .i64 cc)).other (k' := 2) HNE35.out (.slice p n c)).other (k' := 3) HNE35.out (.int .i64 sm)).other (k' := 4) HNE35.out (.slice q m d)
            have h6 := h6n
            have hB := hB2
            clear hB2 h6n k0 f0 k1 f1 k2 f2 k3 f3 k4 f4
            rw [hV6]
            refine hK.out _ _ (hB) (fun hS => ?_)
            clear hK K
            try simp only [List.setIfInBounds_toArray, List.set_cons_zero, List.set_cons_succ]
            refine wpAnyH_ready (rs := [7]) (by kernel_rfl) (by simp) ?_
            refine AllReadyH.cons (o := _) rfl (fun K hK => ?_) AllReadyH.nil
            have hza := hz3.out; have hzb := hz4.out; have hzc := hz5.out
            have HNE43 : Hid (V4.heap.size ≠ w2.heap.size) := by show _ ≠ _; omega
            have HNE45 : Hid (V3.heap.size ≠ w2.heap.size) := by show _ ≠ _; omega
            clear hza hzb hzc
            have k0 := (h7.2 0 _ rfl).1; have f0 := (h7.2 0 _ rfl).2; have k1 := (h7.2 1 _ rfl).1; have f1 := (h7.2 1 _ rfl).2; have k2 := (h7.2 2 _ rfl).1; have f2 := (h7.2 2 _ rfl).2; have k3 := (h7.2 3 _ rfl).1; have f3 := (h7.2 3 _ rfl).2; have k4 := (h7.2 4 _ rfl).1; have f4 := (h7.2 4 _ rfl).2
            go_simp
            obtain ⟨V7, hV7⟩ : ∃ V, (((((V6).setCell ⟨w2.heap.size, 0, none⟩ (.int .i64 r)).setCell ⟨w2.heap.size, 1, none⟩ (.int .i64 cc)).setCell ⟨w2.heap.size, 2, none⟩ (.slice p n c)).setCell ⟨w2.heap.size, 3, none⟩ (.int .i64 sm)).setCell ⟨w2.heap.size, 4, none⟩ (.slice q m d) = V := ⟨_, rfl⟩
            have hB2 : Below (w.heap.size + 1) (w.alloc (.cells #[.int .i64 r, .int .i64 cc, .slice p n c, .int .i64 sm, .slice q m d] 27)) V7 := by rw [← hV7]; exact ((((hB.setCell (p := ⟨_, 0, none⟩) hge4.out _).setCell (p := ⟨_, 1, none⟩) hge4.out _).setCell (p := ⟨_, 2, none⟩) hge4.out _).setCell (p := ⟨_, 3, none⟩) hge4.out _).setCell (p := ⟨_, 4, none⟩) hge4.out _
            have h7n : BoxIs w2.heap.size #[.int .i64 r, .int .i64 cc, .slice p n c, .int .i64 sm, .slice q m d] V7 := by rw [← hV7]; exact ((((h7.put (j := 0) (.int .i64 r)).put (j := 1) (.int .i64 cc)).put (j := 2) (.slice p n c)).put (j := 3) (.int .i64 sm)).put (j := 4) (.slice q m d)
            have h6 : BoxIs V4.heap.size #[.int .i64 r, .int .i64 cc, .slice p n c, .int .i64 sm, .slice q m d] V7 := by rw [← hV7]; exact ((((h6.other (k' := 0) HNE43.out (.int .i64 r)).other (k' := 1) HNE43.out (.int .i64 cc)).other (k' := 2) HNE43.out (.slice p n c)).other (k' := 3) HNE43.out (.int .i64 sm)).other (k' := 4) HNE43.out (.slice q m d)
            have h8 : BoxIs V3.heap.size #[.int .i64 0, .int .i64 0, .slice none 0 0, .int .i64 0, .slice none 0 0] V7 := by rw [← hV7]; exact ((((h8.other (k' := 0) HNE45.out (.int .i64 r)).other (k' := 1) HNE45.out (.int .i64 cc)).other (k' := 2) HNE45.out (.slice p n c)).other (k' := 3) HNE45.out (.int .i64 sm)).other (k' := 4) HNE45.out (.slice q m d)
            have h7 := h7n
            have hB := hB2
            clear hB2 h7n k0 f0 k1 f1 k2 f2 k3 f3 k4 f4
            rw [hV7]
            refine hK.out _ _ (hB) (fun hS => ?_)
            clear hK K
            try simp only [List.setIfInBounds_toArray, List.set_cons_zero, List.set_cons_succ]
            refine wpAnyH_ready (rs := [8]) (by kernel_rfl) (by simp) ?_
            refine AllReadyH.cons (o := _) rfl (fun K hK => ?_) AllReadyH.nil
            have hza := hz3.out; have hzb := hz4.out; have hzc := hz5.out
            have HNE53 : Hid (V4.heap.size ≠ V3.heap.size) := by show _ ≠ _; omega
            have HNE54 : Hid (w2.heap.size ≠ V3.heap.size) := by show _ ≠ _; omega
            clear hza hzb hzc
            have k0 := (h8.2 0 _ rfl).1; have f0 := (h8.2 0 _ rfl).2; have k1 := (h8.2 1 _ rfl).1; have f1 := (h8.2 1 _ rfl).2; have k2 := (h8.2 2 _ rfl).1; have f2 := (h8.2 2 _ rfl).2; have k3 := (h8.2 3 _ rfl).1; have f3 := (h8.2 3 _ rfl).2; have k4 := (h8.2 4 _ rfl).1; have f4 := (h8.2 4 _ rfl).2
            go_simp
            obtain ⟨V8, hV8⟩ : ∃ V, (((((V7).setCell ⟨V3.heap.size, 0, none⟩ (.int .i64 r)).setCell ⟨V3.heap.size, 1, none⟩ (.int .i64 cc)).setCell ⟨V3.heap.size, 2, none⟩ (.slice p n c)).setCell ⟨V3.heap.size, 3, none⟩ (.int .i64 sm)).setCell ⟨V3.heap.size, 4, none⟩ (.slice q m d) = V := ⟨_, rfl⟩
            have hB2 : Below (w.heap.size + 1) (w.alloc (.cells #[.int .i64 r, .int .i64 cc, .slice p n c, .int .i64 sm, .slice q m d] 27)) V8 := by rw [← hV8]; exact ((((hB.setCell (p := ⟨_, 0, none⟩) hge5.out _).setCell (p := ⟨_, 1, none⟩) hge5.out _).setCell (p := ⟨_, 2, none⟩) hge5.out _).setCell (p := ⟨_, 3, none⟩) hge5.out _).setCell (p := ⟨_, 4, none⟩) hge5.out _
            have h8n : BoxIs V3.heap.size #[.int .i64 r, .int .i64 cc, .slice p n c, .int .i64 sm, .slice q m d] V8 := by rw [← hV8]; exact ((((h8.put (j := 0) (.int .i64 r)).put (j := 1) (.int .i64 cc)).put (j := 2) (.slice p n c)).put (j := 3) (.int .i64 sm)).put (j := 4) (.slice q m d)
            have h6 : BoxIs V4.heap.size #[.int .i64 r, .int .i64 cc, .slice p n c, .int .i64 sm, .slice q m d] V8 := by rw [← hV8]; exact ((((h6.other (k' := 0) HNE53.out (.int .i64 r)).other (k' := 1) HNE53.out (.int .i64 cc)).other (k' := 2) HNE53.out (.slice p n c)).other (k' := 3) HNE53.out (.int .i64 sm)).other (k' := 4) HNE53.out (.slice q m d)
            have h7 : BoxIs w2.heap.size #[.int .i64 r, .int .i64 cc, .slice p n c, .int .i64 sm, .slice q m d] V8 := by rw [← hV8]; exact ((((h7.other (k' := 0) HNE54.out (.int .i64 r)).other (k' := 1) HNE54.out (.int .i64 cc)).other (k' := 2) HNE54.out (.slice p n c)).other (k' := 3) HNE54.out (.int .i64 sm)).other (k' := 4) HNE54.out (.slice q m d)
            have h8 := h8n
            have hB := hB2
            clear hB2 h8n k0 f0 k1 f1 k2 f2 k3 f3 k4 f4
            rw [hV8]
            refine hK.out _ _ (hB) (fun hS => ?_)
            clear hK K
            try simp only [List.setIfInBounds_toArray, List.set_cons_zero, List.set_cons_succ]
            refine wpAnyH_done (by kernel_rfl) ?_ _
            clear hS
            have hza := hz3.out; have hzb := hz4.out; have hzc := hz5.out; have hya := hge3.out; have hyb := hge4.out; have hyc := hge5.out
            have hx1 := hid hza; have hx2 := hid hzb; have hx3 := hid hzc; have hx4 := hid hya; have hx5 := hid hyb; have hx6 := hid hyc
            clear hza hzb hzc hya hyb hyc
            go_wp2
            go_meet
            case rel => exact ⟨_, _, _, rfl, rfl, rfl, (by have h1 := hx1.out; have h2 := hx2.out; have h3 := hx3.out; have h4 := hx4.out; have h5 := hx5.out; have h6 := hx6.out; refine ⟨?_, ?_, ?_, ?_, ?_, ?_⟩ <;> omega), hB, h6, h7, h8⟩
          refine AllReadyH.cons (o := _) rfl (fun K hK => ?_) AllReadyH.nil
          obtain ⟨V5, hV5⟩ : ∃ V, (V4).alloc (.cells #[.int .i64 0, .int .i64 0, .slice none 0 0, .int .i64 0, .slice none 0 0] 27) = V := ⟨_, rfl⟩
          have hb : Below (V4).heap.size (V4) V5 := by rw [← hV5]; exact (Below.refl _ _).alloc (Nat.le_refl _) _
          have h8 : BoxIs V4.heap.size #[.int .i64 0, .int .i64 0, .slice none 0 0, .int .i64 0, .slice none 0 0] V5 := by rw [← hV5]; exact BoxIs.start _ _ _
          have hz5 : Hid (V5.heap.size = V4.heap.size + 1) := by rw [← hV5]; exact World.size_alloc _ _
          have hge5 : Hid (w.heap.size + 1 ≤ V4.heap.size) := by have h8 := hB.size; rw [World.size_alloc] at h8; exact h8
          have h7 := h7.below hb
          replace hB := hB.trans (hb.mono hge5.out)
          clear hb
          go_simp
          refine hK.out _ _ (hB) (fun hS => ?_)
          clear hK K
          try simp only [List.setIfInBounds_toArray, List.set_cons_zero, List.set_cons_succ]
          refine wpAnyH_ready (rs := [3]) (by kernel_rfl) (by simp) ?_
          refine AllReadyH.cons (o := _) rfl (fun K hK => ?_) AllReadyH.nil
          obtain ⟨V3, hV3⟩ : ∃ V, (V5).alloc (.cells #[.int .i64 0, .int .i64 0, .slice none 0 0, .int .i64 0, .slice none 0 0] 27) = V := ⟨_, rfl⟩
          have hb : Below (V5).heap.size (V5) V3 := by rw [← hV3]; exact (Below.refl _ _).alloc (Nat.le_refl _) _
          have h6 : BoxIs V5.heap.size #[.int .i64 0, .int .i64 0, .slice none 0 0, .int .i64 0, .slice none 0 0] V3 := by rw [← hV3]; exact BoxIs.start _ _ _
          have hz3 : Hid (V3.heap.size = V5.heap.size + 1) := by rw [← hV3]; exact World.size_alloc _ _
          have hge3 : Hid (w.heap.size + 1 ≤ V5.heap.size) := by have h8 := hB.size; rw [World.size_alloc] at h8; exact h8
          have h7 := h7.below hb
          have h8 := h8.below hb
          replace hB := hB.trans (hb.mono hge3.out)
          clear hb
          go_simp
          refine hK.out _ _ (hB) (fun hS => ?_)
          clear hK K
          try simp only [List.setIfInBounds_toArray, List.set_cons_zero, List.set_cons_succ]
          refine wpAnyH_ready (rs := [6]) (by kernel_rfl) (by simp) ?_
          refine AllReadyH.cons (o := _) rfl (fun K hK => ?_) AllReadyH.nil
          have hza := hz3.out; have hzb := hz4.out; have hzc := hz5.out
          have HNE34 : Hid (w2.heap.size ≠ V5.heap.size) := by show _ ≠ _; omega
          have HNE35 : Hid (V4.heap.size ≠ V5.heap.size) := by show _ ≠ _; omega
          clear hza hzb hzc
          have k0 := (h6.2 0 _ rfl).1; have f0 := (h6.2 0 _ rfl).2; have k1 := (h6.2 1 _ rfl).1; have f1 := (h6.2 1 _ rfl).2; have k2 := (h6.2 2 _ rfl).1; have f2 := (h6.2 2 _ rfl).2; have k3 := (h6.2 3 _ rfl).1; have f3 := (h6.2 3 _ rfl).2; have k4 := (h6.2 4 _ rfl).1; have f4 := (h6.2 4 _ rfl).2
          go_simp
          obtain ⟨V6, hV6⟩ : ∃ V, (((((V3).setCell ⟨V5.heap.size, 0, none⟩ (.int .i64 r)).setCell ⟨V5.heap.size, 1, none⟩ (.int .i64 cc)).setCell ⟨V5.heap.size, 2, none⟩ (.slice p n c)).setCell ⟨V5.heap.size, 3, none⟩ (.int .i64 sm)).setCell ⟨V5.heap.size, 4, none⟩ (.slice q m d) = V := ⟨_, rfl⟩
          have hB2 : Below (w.heap.size + 1) (w.alloc (.cells #[.int .i64 r, .int .i64 cc, .slice p n c, .int .i64 sm, .slice q m d] 27)) V6 := by rw [← hV6]; exact ((((hB.setCell (p := ⟨_, 0, none⟩) hge3.out _).setCell (p := ⟨_, 1, none⟩) hge3.out _).setCell (p := ⟨_, 2, none⟩) hge3.out _).setCell (p := ⟨_, 3, none⟩) hge3.out _).setCell (p := ⟨_, 4, none⟩) hge3.out _
          have h6n : BoxIs V5.heap.size #[.int .i64 r, .int .i64 cc, .slice p n c, .int .i64 sm, .slice q m d] V6 := by rw [← hV6]; exact ((((h6.put (j := 0) (.int .i64 r)).put (j := 1) (.int .i64 cc)).put (j := 2) (.slice p n c)).put (j := 3) (.int .i64 sm)).put (j := 4) (.slice q m d)
          have h7 : BoxIs w2.heap.size #[.int .i64 0, .int .i64 0, .slice none 0 0, .int .i64 0, .slice none 0 0] V6 := by rw [← hV6]; exact ((((h7.other (k' := 0) HNE34.out (.int .i64 r)).other (k' := 1) HNE34.out (.int .i64 cc)).other (k' := 2) HNE34.out (.slice p n c)).other (k' := 3) HNE34.out (.int .i64 sm)).other (k' := 4) HNE34.out (.slice q m d)
          have h8 : BoxIs V4.heap.size #[.int .i64 0, .int .i64 0, .slice none 0 0, .int .i64 0, .slice none 0 0] V6 := by rw [← hV6]; exact ((((h8.other (k' := 0) HNE35.out (.int .i64 r)).other (k' := 1) HNE35.out (.int .i64 cc)).other (k' := 2) HNE35.out (.slice p n c)).other (k' := 3) HNE35.out (.int .i64 sm)).other (k' := 4) HNE35.out (.slice q m d)
          have h6 := h6n
          have hB := hB2
          clear hB2 h6n k0 f0 k1 f1 k2 f2 k3 f3 k4 f4
          rw [hV6]
          refine hK.out _ _ (hB) (fun hS => ?_)
          clear hK K
          try simp only [List.setIfInBounds_toArray, List.set_cons_zero, List.set_cons_succ]
          refine wpAnyH_ready (rs := [7]) (by kernel_rfl) (by simp) ?_
          refine AllReadyH.cons (o := _) rfl (fun K hK => ?_) AllReadyH.nil
          have hza := hz3.out; have hzb := hz4.out; have hzc := hz5.out
          have HNE43 : Hid (V5.heap.size ≠ w2.heap.size) := by show _ ≠ _; omega
          have HNE45 : Hid (V4.heap.size ≠ w2.heap.size) := by show _ ≠ _; omega
          clear hza hzb hzc
          have k0 := (h7.2 0 _ rfl).1; have f0 := (h7.2 0 _ rfl).2; have k1 := (h7.2 1 _ rfl).1; have f1 := (h7.2 1 _ rfl).2; have k2 := (h7.2 2 _ rfl).1; have f2 := (h7.2 2 _ rfl).2; have k3 := (h7.2 3 _ rfl).1; have f3 := (h7.2 3 _ rfl).2; have k4 := (h7.2 4 _ rfl).1; have f4 := (h7.2 4 _ rfl).2
          go_simp
          obtain ⟨V7, hV7⟩ : ∃ V, (((((V6).setCell ⟨w2.heap.size, 0, none⟩ (.int .i64 r)).setCell ⟨w2.heap.size, 1, none⟩ (.int .i64 cc)).setCell ⟨w2.heap.size, 2, none⟩ (.slice p n c)).setCell ⟨w2.heap.size, 3, none⟩ (.int .i64 sm)).setCell ⟨w2.heap.size, 4, none⟩ (.slice q m d) = V := ⟨_, rfl⟩
          have hB2 : Below (w.heap.size + 1) (w.alloc (.cells #[.int .i64 r, .int .i64 cc, .slice p n c, .int .i64 sm, .slice q m d] 27)) V7 := by rw [← hV7]; exact ((((hB.setCell (p := ⟨_, 0, none⟩) hge4.out _).setCell (p := ⟨_, 1, none⟩) hge4.out _).setCell (p := ⟨_, 2, none⟩) hge4.out _).setCell (p := ⟨_, 3, none⟩) hge4.out _).setCell (p := ⟨_, 4, none⟩) hge4.out _
          have h7n : BoxIs w2.heap.size #[.int .i64 r, .int .i64 cc, .slice p n c, .int .i64 sm, .slice q m d] V7 := by rw [← hV7]; exact ((((h7.put (j := 0) (.int .i64 r)).put (j := 1) (.int .i64 cc)).put (j := 2) (.slice p n c)).put (j := 3) (.int .i64 sm)).put (j := 4) (.slice q m d)
          have h6 : BoxIs V5.heap.size #[.int .i64 r, .int .i64 cc, .slice p n c, .int .i64 sm, .slice q m d] V7 := by rw [← hV7]; exact ((((h6.other (k' := 0) HNE43.out (.int .i64 r)).other (k' := 1) HNE43.out (.int .i64 cc)).other (k' := 2) HNE43.out (.slice p n c)).other (k' := 3) HNE43.out (.int .i64 sm)).other (k' := 4) HNE43.out (.slice q m d)
          have h8 : BoxIs V4.heap.size #[.int .i64 0, .int .i64 0, .slice none 0 0, .int .i64 0, .slice none 0 0] V7 := by rw [← hV7]; exact ((((h8.other (k' := 0) HNE45.out (.int .i64 r)).other (k' := 1) HNE45.out (.int .i64 cc)).other (k' := 2) HNE45.out (.slice p n c)).other (k' := 3) HNE45.out (.int .i64 sm)).other (k' := 4) HNE45.out (.slice q m d)
          have h7 := h7n
          have hB := hB2
          clear hB2 h7n k0 f0 k1 f1 k2 f2 k3 f3 k4 f4
          rw [hV7]
          refine hK.out _ _ (hB) (fun hS => ?_)
          clear hK K
          try simp only [List.setIfInBounds_toArray, List.set_cons_zero, List.set_cons_succ]
          refine wpAnyH_ready (rs := [8]) (by kernel_rfl) (by simp) ?_
          refine AllReadyH.cons (o := _) rfl (fun K hK => ?_) AllReadyH.nil
          have hza := hz3.out; have hzb := hz4.out; have hzc := hz5.out
          have HNE53 : Hid (V5.heap.size ≠ V4.heap.size) := by show _ ≠ _; omega
          have HNE54 : Hid (w2.heap.size ≠ V4.heap.size) := by show _ ≠ _; omega
          clear hza hzb hzc
          have k0 := (h8.2 0 _ rfl).1; have f0 := (h8.2 0 _ rfl).2; have k1 := (h8.2 1 _ rfl).1; have f1 := (h8.2 1 _ rfl).2; have k2 := (h8.2 2 _ rfl).1; have f2 := (h8.2 2 _ rfl).2; have k3 := (h8.2 3 _ rfl).1; have f3 := (h8.2 3 _ rfl).2; have k4 := (h8.2 4 _ rfl).1; have f4 := (h8.2 4 _ rfl).2
          go_simp
          obtain ⟨V8, hV8⟩ : ∃ V, (((((V7).setCell ⟨V4.heap.size, 0, none⟩ (.int .i64 r)).setCell ⟨V4.heap.size, 1, none⟩ (.int .i64 cc)).setCell ⟨V4.heap.size, 2, none⟩ (.slice p n c)).setCell ⟨V4.heap.size, 3, none⟩ (.int .i64 sm)).setCell ⟨V4.heap.size, 4, none⟩ (.slice q m d) = V := ⟨_, rfl⟩
          have hB2 : Below (w.heap.size + 1) (w.alloc (.cells #[.int .i64 r, .int .i64 cc, .slice p n c, .int .i64 sm, .slice q m d] 27)) V8 := by rw [← hV8]; exact ((((hB.setCell (p := ⟨_, 0, none⟩) hge5.out _).setCell (p := ⟨_, 1, none⟩) hge5.out _).setCell (p := ⟨_, 2, none⟩) hge5.out _).setCell (p := ⟨_, 3, none⟩) hge5.out _).setCell (p := ⟨_, 4, none⟩) hge5.out _
          have h8n : BoxIs V4.heap.size #[.int .i64 r, .int .i64 cc, .slice p n c, .int .i64 sm, .slice q m d] V8 := by rw [← hV8]; exact ((((h8.put (j := 0) (.int .i64 r)).put (j := 1) (.int .i64 cc)).put (j := 2) (.slice p n c)).put (j := 3) (.int .i64 sm)).put (j := 4) (.slice q m d)
          have h6 : BoxIs V5.heap.size #[.int .i64 r, .int .i64 cc, .slice p n c, .int .i64 sm, .slice q m d] V8 := by rw [← hV8]; exact ((((h6.other (k' := 0) HNE53.out (.int .i64 r)).other (k' := 1) HNE53.out (.int .i64 cc)).other (k' := 2) HNE53.out (.slice p n c)).other (k' := 3) HNE53.out (.int .i64 sm)).other (k' := 4) HNE53.out (.slice q m d)
          have h7 : BoxIs w2.heap.size #[.int .i64 r, .int .i64 cc, .slice p n c, .int .i64 sm, .slice q m d] V8 := by rw [← hV8]; exact ((((h7.other (k' := 0) HNE54.out (.int .i64 r)).other (k' := 1) HNE54.out (.int .i64 cc)).other (k' := 2) HNE54.out (.slice p n c)).other (k' := 3) HNE54.out (.int .i64 sm)).other (k' := 4) HNE54.out (.slice q m d)
          have h8 := h8n
          have hB := hB2
          clear hB2 h8n k0 f0 k1 f1 k2 f2 k3 f3 k4 f4
          rw [hV8]
          refine hK.out _ _ (hB) (fun hS => ?_)
          clear hK K
          try simp only [List.setIfInBounds_toArray, List.set_cons_zero, List.set_cons_succ]
          refine wpAnyH_done (by kernel_rfl) ?_ _
          clear hS
          have hza := hz3.out; have hzb := hz4.out; have hzc := hz5.out; have hya := hge3.out; have hyb := hge4.out; have hyc := hge5.out
          have hx1 := hid hza; have hx2 := hid hzb; have hx3 := hid hzc; have hx4 := hid hya; have hx5 := hid hyb; have hx6 := hid hyc
          clear hza hzb hzc hya hyb hyc
          go_wp2
          go_meet
          case rel => exact ⟨_, _, _, rfl, rfl, rfl, (by have h1 := hx1.out; have h2 := hx2.out; have h3 := hx3.out; have h4 := hx4.out; have h5 := hx5.out; have h6 := hx6.out; refine ⟨?_, ?_, ?_, ?_, ?_, ?_⟩ <;> omega), hB, h6, h7, h8⟩
        refine AllReadyH.cons (o := _) rfl (fun K hK => ?_) AllReadyH.nil
        obtain ⟨V5, hV5⟩ : ∃ V, (w2.drew).alloc (.cells #[.int .i64 0, .int .i64 0, .slice none 0 0, .int .i64 0, .slice none 0 0] 27) = V := ⟨_, rfl⟩
        have hb : Below (w2.drew).heap.size (w2.drew) V5 := by rw [← hV5]; exact (Below.refl _ _).alloc (Nat.le_refl _) _
        have h8 : BoxIs w2.heap.size #[.int .i64 0, .int .i64 0, .slice none 0 0, .int .i64 0, .slice none 0 0] V5 := by rw [← hV5]; exact BoxIs.start _ _ _
        have hz5 : Hid (V5.heap.size = w2.heap.size + 1) := by rw [← hV5]; exact World.size_alloc _ _
        have hge5 : Hid (w.heap.size + 1 ≤ w2.heap.size) := by have h8 := hB.size; rw [World.size_alloc] at h8; exact h8
        replace hB := hB.trans (hb.mono hge5.out)
        clear hb
        go_simp
        refine hK.out _ _ (hB) (fun hS => ?_)
        clear hK K
        try simp only [List.setIfInBounds_toArray, List.set_cons_zero, List.set_cons_succ]
        refine wpAnyH_ready (rs := [3, 4]) (by kernel_rfl) (by simp) ?_
        refine AllReadyH.cons (o := _) rfl (fun K hK => ?_) ?_
        · skip
          obtain ⟨V3, hV3⟩ : ∃ V, (V5).alloc (.cells #[.int .i64 0, .int .i64 0, .slice none 0 0, .int .i64 0, .slice none 0 0] 27) = V := ⟨_, rfl⟩
          have hb : Below (V5).heap.size (V5) V3 := by rw [← hV3]; exact (Below.refl _ _).alloc (Nat.le_refl _) _
          have h6 : BoxIs V5.heap.size #[.int .i64 0, .int .i64 0, .slice none 0 0, .int .i64 0, .slice none 0 0] V3 := by rw [← hV3]; exact BoxIs.start _ _ _
          have hz3 : Hid (V3.heap.size = V5.heap.size + 1) := by rw [← hV3]; exact World.size_alloc _ _
          have hge3 : Hid (w.heap.size + 1 ≤ V5.heap.size) := by have h8 := hB.size; rw [World.size_alloc] at h8; exact h8
          have h8 := h8.below hb
          replace hB := hB.trans (hb.mono hge3.out)
          clear hb
          go_simp
          refine hK.out _ _ (hB) (fun hS => ?_)
          clear hK K
          try simp only [List.setIfInBounds_toArray, List.set_cons_zero, List.set_cons_succ]
          refine wpAnyH_ready (rs := [4]) (by kernel_rfl) (by simp) ?_
          refine AllReadyH.cons (o := _) rfl (fun K hK => ?_) AllReadyH.nil
          obtain ⟨V4, hV4⟩ : ∃ V, (V3).alloc (.cells #[.int .i64 0, .int .i64 0, .slice none 0 0, .int .i64 0, .slice none 0 0] 27) = V := ⟨_, rfl⟩
          have hb : Below (V3).heap.size (V3) V4 := by rw [← hV4]; exact (Below.refl _ _).alloc (Nat.le_refl _) _
          have h7 : BoxIs V3.heap.size #[.int .i64 0, .int .i64 0, .slice none 0 0, .int .i64 0, .slice none 0 0] V4 := by rw [← hV4]; exact BoxIs.start _ _ _
          have hz4 : Hid (V4.heap.size = V3.heap.size + 1) := by rw [← hV4]; exact World.size_alloc _ _
          have hge4 : Hid (w.heap.size + 1 ≤ V3.heap.size) := by have h8 := hB.size; rw [World.size_alloc] at h8; exact h8
          have h6 := h6.below hb
          have h8 := h8.below hb
          replace hB := hB.trans (hb.mono hge4.out)
          clear hb
          go_simp
          refine hK.out _ _ (hB) (fun hS => ?_)
          clear hK K
          try simp only [List.setIfInBounds_toArray, List.set_cons_zero, List.set_cons_succ]
          refine wpAnyH_ready (rs := [6]) (by kernel_rfl) (by simp) ?_
          refine AllReadyH.cons (o := _) rfl (fun K hK => ?_) AllReadyH.nil
          have hza := hz3.out; have hzb := hz4.out; have hzc := hz5.out
          have HNE34 : Hid (V3.heap.size ≠ V5.heap.size) := by show _ ≠ _; omega
          have HNE35 : Hid (w2.heap.size ≠ V5.heap.size) := by show _ ≠ _; omega
          clear hza hzb hzc
          have k0 := (h6.2 0 _ rfl).1; have f0 := (h6.2 0 _ rfl).2; have k1 := (h6.2 1 _ rfl).1; have f1 := (h6.2 1 _ rfl).2; have k2 := (h6.2 2 _ rfl).1; have f2 := (h6.2 2 _ rfl).2; have k3 := (h6.2 3 _ rfl).1; have f3 := (h6.2 3 _ rfl).2; have k4 := (h6.2 4 _ rfl).1; have f4 := (h6.2 4 _ rfl).2
          go_simp
          obtain ⟨V6, hV6⟩ : ∃ V, (((((V4).setCell ⟨V5.heap.size, 0, none⟩ (.int .i64 r)).setCell ⟨V5.heap.size, 1, none⟩ (.int .i64 cc)).setCell ⟨V5.heap.size, 2, none⟩ (.slice p n c)).setCell ⟨V5.heap.size, 3, none⟩ (.int .i64 sm)).setCell ⟨V5.heap.size, 4, none⟩ (.slice q m d) = V := ⟨_, rfl⟩
          have hB2 : Below (w.heap.size + 1) (w.alloc (.cells #[.int .i64 r, .int .i64 cc, .slice p n c, .int .i64 sm, .slice q m d] 27)) V6 := by rw [← hV6]; exact ((((hB.setCell (p := ⟨_, 0, none⟩) hge3.out _).setCell (p := ⟨_, 1, none⟩) hge3.out _).setCell (p := ⟨_, 2, none⟩) hge3.out _).setCell (p := ⟨_, 3, none⟩) hge3.out _).setCell (p := ⟨_, 4, none⟩) hge3.out _
          have h6n : BoxIs V5.heap.size #[.int .i64 r, .int .i64 cc, .slice p n c, .int .i64 sm, .slice q m d] V6 := by rw [← hV6]; exact ((((h6.put (j := 0) (.int .i64 r)).put (j := 1) (.int .i64 cc)).put (j := 2) (.slice p n c)).put (j := 3) (.int .i64 sm)).put (j := 4) (.slice q m d)
          have h7 : BoxIs V3.heap.size #[.int .i64 0, .int .i64 0, .slice none 0 0, .int .i64 0, .slice none 0 0] V6 := by rw [← hV6]; exact ((((h7.other (k' := 0) HNE34.out (.int .i64 r)).other (k' := 1) HNE34.out (.int .i64 cc)).other (k' := 2) HNE34.out (.slice p n c)).other (k' := 3) HNE34.out (.int .i64 sm)).other (k' := 4) HNE34.out (.slice q m d)
          have h8 : BoxIs w2.heap.size #[.int .i64 0, .int .i64 0, .slice none 0 0, .int .i64 0, .slice none 0 0] V6 := by rw [← hV6]; exact ((((h8.other (k' := 0) HNE35.out (.int .i64 r)).other (k' := 1) HNE35.out (.int .i64 cc)).other (k' := 2) HNE35.out (.slice p n c)).other (k' := 3) HNE35.out (.int .i64 sm)).other (k' := 4) HNE35.out (.slice q m d)
          have h6 := h6n
          have hB := hB2
          clear hB2 h6n k0 f0 k1 f1 k2 f2 k3 f3 k4 f4
          rw [hV6]
          refine hK.out _ _ (hB) (fun hS => ?_)
          clear hK K
          try simp only [List.setIfInBounds_toArray, List.set_cons_zero, List.set_cons_succ]
          refine wpAnyH_ready (rs := [7]) (by kernel_rfl) (by simp) ?_
          refine AllReadyH.cons (o := _) rfl (fun K hK => ?_) AllReadyH.nil
          have hza := hz3.out; have hzb := hz4.out; have hzc := hz5.out
          have HNE43 : Hid (V5.heap.size ≠ V3.heap.size) := by show _ ≠ _; omega
          have HNE45 : Hid (w2.heap.size ≠ V3.heap.size) := by show _ ≠ _; omega
          clear hza hzb hzc
          have k0 := (h7.2 0 _ rfl).1; have f0 := (h7.2 0 _ rfl).2; have k1 := (h7.2 1 _ rfl).1; have f1 := (h7.2 1 _ rfl).2; have k2 := (h7.2 2 _ rfl).1; have f2 := (h7.2 2 _ rfl).2; have k3 := (h7.2 3 _ rfl).1; have f3 := (h7.2 3 _ rfl).2; have k4 := (h7.2 4 _ rfl).1; have f4 := (h7.2 4 _ rfl).2
          go_simp
          obtain ⟨V7, hV7⟩ : ∃ V, (((((V6).setCell ⟨V3.heap.size, 0, none⟩ (.int .i64 r)).setCell ⟨V3.heap.size, 1, none⟩ (.int .i64 cc)).setCell ⟨V3.heap.size, 2, none⟩ (.slice p n c)).setCell ⟨V3.heap.size, 3, none⟩ (.int .i64 sm)).setCell ⟨V3.heap.size, 4, none⟩ (.slice q m d) = V := ⟨_, rfl⟩
          have hB2 : Below (w.heap.size + 1) (w.alloc (.cells #[.int .i64 r, .int .i64 cc, .slice p n c, .int .i64 sm, .slice q m d] 27)) V7 := by rw [← hV7]; exact ((((hB.setCell (p := ⟨_, 0, none⟩) hge4.out _).setCell (p := ⟨_, 1, none⟩) hge4.out _).setCell (p := ⟨_, 2, none⟩) hge4.out _).setCell (p := ⟨_, 3, none⟩) hge4.out _).setCell (p := ⟨_, 4, none⟩) hge4.out _
          have h7n : BoxIs V3.heap.size #[.int .i64 r, .int .i64 cc, .slice p n c, .int .i64 sm, .slice q m d] V7 := by rw [← hV7]; exact ((((h7.put (j := 0) (.int .i64 r)).put (j := 1) (.int .i64 cc)).put (j := 2) (.slice p n c)).put (j := 3) (.int .i64 sm)).put (j := 4) (.slice q m d)
          have h6 : BoxIs V5.heap.size #[.int .i64 r, .int .i64 cc, .slice p n c, .int .i64 sm, .slice q m d] V7 := by rw [← hV7]; exact ((((h6.other (k' := 0) HNE43.out (.int .i64 r)).other (k' := 1) HNE43.out (.int .i64 cc)).other (k' := 2) HNE43.out (.slice p n c)).other (k' := 3) HNE43.out (.int .i64 sm)).other (k' := 4) HNE43.out (.slice q m d)
          have h8 : BoxIs w2.heap.size #[.int .i64 0, .int .i64 0, .slice none 0 0, .int .i64 0, .slice none 0 0] V7 := by rw [← hV7]; exact ((((h8.other (k' := 0) HNE45.out (.int .i64 r)).other (k' := 1) HNE45.out (.int .i64 cc)).other (k' := 2) HNE45.out (.slice p n c)).other (k' := 3) HNE45.out (.int .i64 sm)).other (k' := 4) HNE45.out (.slice q m d)
          have h7 := h7n
          have hB := hB2
          clear hB2 h7n k0 f0 k1 f1 k2 f2 k3 f3 k4 f4
          rw [hV7]
          refine hK.out _ _ (hB) (fun hS => ?_)
          clear hK K
          try simp only [List.setIfInBounds_toArray, List.set_cons_zero, List.set_cons_succ]
          refine wpAnyH_ready (rs := [8]) (by kernel_rfl) (by simp) ?_
          refine AllReadyH.cons (o := _) rfl (fun K hK => ?_) AllReadyH.nil
          have hza := hz3.out; have hzb := hz4.out; have hzc := hz5.out
          have HNE53 : Hid (V5.heap.size ≠ w2.heap.size) := by show _ ≠ _; omega
          have HNE54 : Hid (V3.heap.size ≠ w2.heap.size) := by show _ ≠ _; omega
          clear hza hzb hzc
          have k0 := (h8.2 0 _ rfl).1; have f0 := (h8.2 0 _ rfl).2; have k1 := (h8.2 1 _ rfl).1; have f1 := (h8.2 1 _ rfl).2; have k2 := (h8.2 2 _ rfl).1; have f2 := (h8.2 2 _ rfl).2; have k3 := (h8.2 3 _ rfl).1; have f3 := (h8.2 3 _ rfl).2; have k4 := (h8.2 4 _ rfl).1; have f4 := (h8.2 4 _ rfl).2
          go_simp
          obtain ⟨V8, hV8⟩ : ∃ V, (((((V7).setCell ⟨w2.heap.size, 0, none⟩ (.int .i64 r)).setCell ⟨w2.heap.size, 1, none⟩ (.int .i64 cc)).setCell ⟨w2.heap.size, 2, none⟩ (.slice p n c)).setCell ⟨w2.heap.size, 3, none⟩ (.int .i64 sm)).setCell ⟨w2.heap.size, 4, none⟩ (.slice q m d) = V := ⟨_, rfl⟩
          have hB2 : Below (w.heap.size + 1) (w.alloc (.cells #[.int .i64 r, .int .i64 cc, .slice p n c, .int .i64 sm, .slice q m d] 27)) V8 := by rw [← hV8]; exact ((((hB.setCell (p := ⟨_, 0, none⟩) hge5.out _).setCell (p := ⟨_, 1, none⟩) hge5.out _).setCell (p := ⟨_, 2, none⟩) hge5.out _).setCell (p := ⟨_, 3, none⟩) hge5.out _).setCell (p := ⟨_, 4, none⟩) hge5.out _
          have h8n : BoxIs w2.heap.size #[.int .i64 r, .int .i64 cc, .slice p n c, .int .i64 sm, .slice q m d] V8 := by rw [← hV8]; exact ((((h8.put (j := 0) (.int .i64 r)).put (j := 1) (.int .i64 cc)).put (j := 2) (.slice p n c)).put (j := 3) (.int .i64 sm)).put (j := 4) (.slice q m d)
          have h6 : BoxIs V5.heap.size #[.int .i64 r, .int .i64 cc, .slice p n c, .int .i64 sm, .slice q m d] V8 := by rw [← hV8]; exact ((((h6.other (k' := 0) HNE53.out (.int .i64 r)).other (k' := 1) HNE53.out (.int .i64 cc)).other (k' := 2) HNE53.out (.slice p n c)).other (k' := 3) HNE53.out (.int .i64 sm)).other (k' := 4) HNE53.out (.slice q m d)
          have h7 : BoxIs V3.heap.size #[.int .i64 r, .int .i64 cc, .slice p n c, .int .i64 sm, .slice q m d] V8 := by rw [← hV8]; exact ((((h7.other (k' := 0) HNE54.out (.int .i64 r)).other (k' := 1) HNE54.out (.int .i64 cc)).other (k' := 2) HNE54.out (.slice p n c)).other (k' := 3) HNE54.out (.int .i64 sm)).other (k' := 4) HNE54.out (.slice q m d)
          have h8 := h8n
          have hB := hB2
          clear hB2 h8n k0 f0 k1 f1 k2 f2 k3 f3 k4 f4
          rw [hV8]
          refine hK.out _ _ (hB) (fun hS => ?_)
          clear hK K
          try simp only [List.setIfInBounds_toArray, List.set_cons_zero, List.set_cons_succ]
          refine wpAnyH_done (by kernel_rfl) ?_ _
          clear hS
          have hza := hz3.out; have hzb := hz4.out; have hzc := hz5.out; have hya := hge3.out; have hyb := hge4.out; have hyc := hge5.out
          have hx1 := hid hza; have hx2 := hid hzb; have hx3 := hid hzc; have hx4 := hid hya; have hx5 := hid hyb; have hx6 := hid hyc
          clear hza hzb hzc hya hyb hyc
          go_wp2
          go_meet
          case rel => exact ⟨_, _, _, rfl, rfl, rfl, (by have h1 := hx1.out; have h2 := hx2.out; have h3 := hx3.out; have h4 := hx4.out; have h5 := hx5.out; have h6 := hx6.out; refine ⟨?_, ?_, ?_, ?_, ?_, ?_⟩ <;> omega), hB, h6, h7, h8⟩
        refine AllReadyH.cons (o := _) rfl (fun K hK => ?_) AllReadyH.nil
        obtain ⟨V4, hV4⟩ : ∃ V, (V5).alloc (.cells #[.int .i64 0, .int .i64 0, .slice none 0 0, .int .i64 0, .slice none 0 0] 27) = V := ⟨_, rfl⟩
        have hb : Below (V5).heap.size (V5) V4 := by rw [← hV4]; exact (Below.refl _ _).alloc (Nat.le_refl _) _
        have h7 : BoxIs V5.heap.size #[.int .i64 0, .int .i64 0, .slice none 0 0, .int .i64 0, .slice none 0 0] V4 := by rw [← hV4]; exact BoxIs.start _ _ _
        have hz4 : Hid (V4.heap.size = V5.heap.size + 1) := by rw [← hV4]; exact World.size_alloc _ _
        have hge4 : Hid (w.heap.size + 1 ≤ V5.heap.size) := by have h8 := hB.size; rw [World.size_alloc] at h8; exact h8
        have h8 := h8.below hb
        replace hB := hB.trans (hb.mono hge4.out)
        clear hb
        go_simp
        refine hK.out _ _ (hB) (fun hS => ?_)
        clear hK K
        try simp only [List.setIfInBounds_toArray, List.set_cons_zero, List.set_cons_succ]
        refine wpAnyH_ready (rs := [3]) (by kernel_rfl) (by simp) ?_
        refine AllReadyH.cons (o := _) rfl (fun K hK => ?_) AllReadyH.nil
        obtain ⟨V3, hV3⟩ : ∃ V, (V4).alloc (.cells #[.int .i64 0, .int .i64 0, .slice none 0 0, .int .i64 0, .slice none 0 0] 27) = V := ⟨_, rfl⟩
        have hb : Below (V4).heap.size (V4) V3 := by rw [← hV3]; exact (Below.refl _ _).alloc (Nat.le_refl _) _
        have h6 : BoxIs V4.heap.size #[.int .i64 0, .int .i64 0, .slice none 0 0, .int .i64 0, .slice none 0 0] V3 := by rw [← hV3]; exact BoxIs.start _ _ _
        have hz3 : Hid (V3.heap.size = V4.heap.size + 1) := by rw [← hV3]; exact World.size_alloc _ _
        have hge3 : Hid (w.heap.size + 1 ≤ V4.heap.size) := by have h8 := hB.size; rw [World.size_alloc] at h8; exact h8
        have h7 := h7.below hb
        have h8 := h8.below hb
        replace hB := hB.trans (hb.mono hge3.out)
        clear hb
        go_simp
        refine hK.out _ _ (hB) (fun hS => ?_)
        clear hK K
        try simp only [List.setIfInBounds_toArray, List.set_cons_zero, List.set_cons_succ]
        refine wpAnyH_ready (rs := [6]) (by kernel_rfl) (by simp) ?_
        refine AllReadyH.cons (o := _) rfl (fun K hK => ?_) AllReadyH.nil
        have hza := hz3.out; have hzb := hz4.out; have hzc := hz5.out
        have HNE34 : Hid (V5.heap.size ≠ V4.heap.size) := by show _ ≠ _; omega
        have HNE35 : Hid (w2.heap.size ≠ V4.heap.size) := by show _ ≠ _; omega
        clear hza hzb hzc
        have k0 := (h6.2 0 _ rfl).1; have f0 := (h6.2 0 _ rfl).2; have k1 := (h6.2 1 _ rfl).1; have f1 := (h6.2 1 _ rfl).2; have k2 := (h6.2 2 _ rfl).1; have f2 := (h6.2 2 _ rfl).2; have k3 := (h6.2 3 _ rfl).1; have f3 := (h6.2 3 _ rfl).2; have k4 := (h6.2 4 _ rfl).1; have f4 := (h6.2 4 _ rfl).2
        go_simp
        obtain ⟨V6, hV6⟩ : ∃ V, (((((V3).setCell ⟨V4.heap.size, 0, none⟩ (.int .i64 r)).setCell ⟨V4.heap.size, 1, none⟩ (.int .i64 cc)).setCell ⟨V4.heap.size, 2, none⟩ (.slice p n c)).setCell ⟨V4.heap.size, 3, none⟩ (.int .i64 sm)).setCell ⟨V4.heap.size, 4, none⟩ (.slice q m d) = V := ⟨_, rfl⟩
        have hB2 : Below (w.heap.size + 1) (w.alloc (.cells #[.int .i64 r, .int .i64 cc, .slice p n c, .int .i64 sm, .slice q m d] 27)) V6 := by rw [← hV6]; exact ((((hB.setCell (p := ⟨_, 0, none⟩) hge3.out _).setCell (p := ⟨_, 1, none⟩) hge3.out _).setCell (p := ⟨_, 2, none⟩) hge3.out _).setCell (p := ⟨_, 3, none⟩) hge3.out _).setCell (p := ⟨_, 4, none⟩) hge3.out _
        have h6n : BoxIs V4.heap.size #[.int .i64 r, .int .i64 cc, .slice p n c, .int .i64 sm, .slice q m d] V6 := by rw [← hV6]; exact ((((h6.put (j := 0) (.int .i64 r)).put (j := 1) (.int .i64 cc)).put (j := 2) (.slice p n c)).put (j := 3) (.int .i64 sm)).put (j := 4) (.slice q m d)
        have h7 : BoxIs V5.heap.size #[.int .i64 0, .int .i64 0, .slice none 0 0, .int .i64 0, .slice none 0 0] V6 := by rw [← hV6]; exact ((((h7.other (k' := 0) HNE34.out (.int .i64 r)).other (k' := 1) HNE34.out (.int .i64 cc)).other (k' := 2) HNE34.out (.slice p n c)).other (k' := 3) HNE34.out (.int .i64 sm)).other (k' := 4) HNE34.out (.slice q m d)
        have h8 : BoxIs w2.heap.size #[.int .i64 0, .int .i64 0, .slice none 0 0, .int .i64 0, .slice none 0 0] V6 := by rw [← hV6]; exact ((((h8.other (k' := 0) HNE35.out (.int .i64 r)).other (k' := 1) HNE35.out (.int .i64 cc)).other (k' := 2) HNE35.out (.slice p n c)).other (k' := 3) HNE35.out (.int .i64 sm)).other (k' := 4) HNE35.out (.slice q m d)
        have h6 := h6n
        have hB := hB2
        clear hB2 h6n k0 f0 k1 f1 k2 f2 k3 f3 k4 f4
        rw [hV6]
        refine hK.out _ _ (hB) (fun hS => ?_)
        clear hK K
        try simp only [List.setIfInBounds_toArray, List.set_cons_zero, List.set_cons_succ]
        refine wpAnyH_ready (rs := [7]) (by kernel_rfl) (by simp) ?_
        refine AllReadyH.cons (o := _) rfl (fun K hK => ?_) AllReadyH.nil
        have hza := hz3.out; have hzb := hz4.out; have hzc := hz5.out
        have HNE43 : Hid (V4.heap.size ≠ V5.heap.size) := by show _ ≠ _; omega
        have HNE45 : Hid (w2.heap.size ≠ V5.heap.size) := by show _ ≠ _; omega
        clear hza hzb hzc
        have k0 := (h7.2 0 _ rfl).1; have f0 := (h7.2 0 _ rfl).2; have k1 := (h7.2 1 _ rfl).1; have f1 := (h7.2 1 _ rfl).2; have k2 := (h7.2 2 _ rfl).1; have f2 := (h7.2 2 _ rfl).2; have k3 := (h7.2 3 _ rfl).1; have f3 := (h7.2 3 _ rfl).2; have k4 := (h7.2 4 _ rfl).1; have f4 := (h7.2 4 _ rfl).2
        go_simp
        obtain ⟨V7, hV7⟩ : ∃ V, (((((V6).setCell ⟨V5.heap.size, 0, none⟩ (.int .i64 r)).setCell ⟨V5.heap.size, 1, none⟩ (.int .i64 cc)).setCell ⟨V5.heap.size, 2, none⟩ (.slice p n c)).setCell ⟨V5.heap.size, 3, none⟩ (.int .i64 sm)).setCell ⟨V5.heap.size, 4, none⟩ (.slice q m d) = V := ⟨_, rfl⟩
        have hB2 : Below (w.heap.size + 1) (w.alloc (.cells #[.int .i64 r, .int .i64 cc, .slice p n c, .int .i64 sm, .slice q m d] 27)) V7 := by rw [← hV7]; exact ((((hB.setCell (p := ⟨_, 0, none⟩) hge4.out _).setCell (p := ⟨_, 1, none⟩) hge4.out _).setCell (p := ⟨_, 2, none⟩) hge4.out _).setCell (p := ⟨_, 3, none⟩) hge4.out _).setCell (p := ⟨_, 4, none⟩) hge4.out _
        have h7n : BoxIs V5.heap.size #[.int .i64 r, .int .i64 cc, .slice p n c, .int .i64 sm, .slice q m d] V7 := by rw [← hV7]; exact ((((h7.put (j := 0) (.int .i64 r)).put (j := 1) (.int .i64 cc)).put (j := 2) (.slice p n c)).put (j := 3) (.int .i64 sm)).put (j := 4) (.slice q m d)
        have h6 : BoxIs V4.heap.size #[.int .i64 r, .int .i64 cc, .slice p n c, .int .i64 sm, .slice q m d] V7 := by rw [← hV7]; exact ((((h6.other (k' := 0) HNE43.out (.int .i64 r)).other (k' := 1) HNE43.out (.int .i64 cc)).other (k' := 2) HNE43.out (.slice p n c)).other (k' := 3) HNE43.out (.int .i64 sm)).other (k' := 4) HNE43.out (.slice q m d)
        have h8 : BoxIs w2.heap.size #[.int .i64 0, .int .i64 0, .slice none 0 0, .int .i64 0, .slice none 0 0] V7 := by rw [← hV7]; exact ((((h8.other (k' := 0) HNE45.out (.int .i64 r)).other (k' := 1) HNE45.out (.int .i64 cc)).other (k' := 2) HNE45.out (.slice p n c)).other (k' := 3) HNE45.out (.int .i64 sm)).other (k' := 4) HNE45.out (.slice q m d)
        have h7 := h7n
        have hB := hB2
        clear hB2 h7n k0 f0 k1 f1 k2 f2 k3 f3 k4 f4
        rw [hV7]
        refine hK.out _ _ (hB) (fun hS => ?_)
        clear hK K
        try simp only [List.setIfInBounds_toArray, List.set_cons_zero, List.set_cons_succ]
        refine wpAnyH_ready (rs := [8]) (by kernel_rfl) (by simp) ?_
        refine AllReadyH.cons (o := _) rfl (fun K hK => ?_) AllReadyH.nil
        have hza := hz3.out; have hzb := hz4.out; have hzc := hz5.out
        have HNE53 : Hid (V4.heap.size ≠ w2.heap.size) := by show _ ≠ _; omega
        have HNE54 : Hid (V5.heap.size ≠ w2.heap.size) := by show _ ≠ _; omega
        clear hza hzb hzc
        have k0 := (h8.2 0 _ rfl).1; have f0 := (h8.2 0 _ rfl).2; have k1 := (h8.2 1 _ rfl).1; have f1 := (h8.2 1 _ rfl).2; have k2 := (h8.2 2 _ rfl).1; have f2 := (h8.2 2 _ rfl).2; have k3 := (h8.2 3 _ rfl).1; have f3 := (h8.2 3 _ rfl).2; have k4 := (h8.2 4 _ rfl).1; have f4 := (h8.2 4 _ rfl).2
        go_simp
        obtain ⟨V8, hV8⟩ : ∃ V, (((((V7).setCell ⟨w2.heap.size, 0, none⟩ (.int .i64 r)).setCell ⟨w2.heap.size, 1, none⟩ (.int .i64 cc)).setCell ⟨w2.heap.size, 2, none⟩ (.slice p n c)).setCell ⟨w2.heap.size, 3, none⟩ (.int .i64 sm)).setCell ⟨w2.heap.size, 4, none⟩ (.slice q m d) = V := ⟨_, rfl⟩
        have hB2 : Below (w.heap.size + 1) (w.alloc (.cells #[.int .i64 r, .int .i64 cc, .slice p n c, .int .i64 sm, .slice q m d] 27)) V8 := by rw [← hV8]; exact ((((hB.setCell (p := ⟨_, 0, none⟩) hge5.out _).setCell (p := ⟨_, 1, none⟩) hge5.out _).setCell (p := ⟨_, 2, none⟩) hge5.out _).setCell (p := ⟨_, 3, none⟩) hge5.out _).setCell (p := ⟨_, 4, none⟩) hge5.out _
        have h8n : BoxIs w2.heap.size #[.int .i64 r, .int .i64 cc, .slice p n c, .int .i64 sm, .slice q m d] V8 := by rw [← hV8]; exact ((((h8.put (j := 0) (.int .i64 r)).put (j := 1) (.int .i64 cc)).put (j := 2) (.slice p n c)).put (j := 3) (.int .i64 sm)).put (j := 4) (.slice q m d)
        have h6 : BoxIs V4.heap.size #[.int .i64 r, .int .i64 cc, .slice p n c, .int .i64 sm, .slice q m d] V8 := by rw [← hV8]; exact ((((h6.other (k' := 0) HNE53.out (.int .i64 r)).other (k' := 1) HNE53.out (.int .i64 cc)).other (k' := 2) HNE53.out (.slice p n c)).other (k' := 3) HNE53.out (.int .i64 sm)).other (k' := 4) HNE53.out (.slice q m d)
        have h7 : BoxIs V5.heap.size #[.int .i64 r, .int .i64 cc, .slice p n c, .int .i64 sm, .slice q m d] V8 := by rw [← hV8]; exact ((((h7.other (k' := 0) HNE54.out (.int .i64 r)).other (k' := 1) HNE54.out (.int .i64 cc)).other (k' := 2) HNE54.out (.slice p n c)).other (k' := 3) HNE54.out (.int .i64 sm)).other (k' := 4) HNE54.out (.slice q m d)
        have h8 := h8n
        have hB := hB2
        clear hB2 h8n k0 f0 k1 f1 k2 f2 k3 f3 k4 f4
        rw [hV8]
        refine hK.out _ _ (hB) (fun hS => ?_)
        clear hK K
        try simp only [List.setIfInBounds_toArray, List.set_cons_zero, List.set_cons_succ]
        refine wpAnyH_done (by kernel_rfl) ?_ _
        clear hS
        have hza := hz3.out; have hzb := hz4.out; have hzc := hz5.out; have hya := hge3.out; have hyb := hge4.out; have hyc := hge5.out
        have hx1 := hid hza; have hx2 := hid hzb; have hx3 := hid hzc; have hx4 := hid hya; have hx5 := hid hyb; have hx6 := hid hyc
        clear hza hzb hzc hya hyb hyc
        go_wp2
        go_meet
        case rel => exact ⟨_, _, _, rfl, rfl, rfl, (by have h1 := hx1.out; have h2 := hx2.out; have h3 := hx3.out; have h4 := hx4.out; have h5 := hx5.out; have h6 := hx6.out; refine ⟨?_, ?_, ?_, ?_, ?_, ?_⟩ <;> omega), hB, h6, h7, h8⟩
      case rest =>
        obtain ⟨bl, bg, ba, rfl, rfl, rfl, hD, hB, h6, h7, h8⟩ := hcut
        have HD3 := hid hD; have HB4 := hid hB; have HL4 := hid h6; have HG4 := hid h7; have HA4 := hid h8
        clear hD hB h6 h7 h8 g0 g1 g2 g3 g4
        obtain ⟨N, hN⟩ : ∃ a, wc.heap.size = a := ⟨_, rfl⟩
        have HNN := hid hN
        clear hN
        have HNB : Hid (w.heap.size + 1 ≤ N) := by have h8 := HB4.out.size; rw [World.size_alloc, HNN.out] at h8; exact h8
        have hlt3 : bl < N ∧ bg < N ∧ ba < N := by rw [← HNN.out]; exact ⟨HL4.out.1, HG4.out.1, HA4.out.1⟩
        have HLT := hid hlt3
        clear hlt3
        have HCS : Hid (∀ V, Below (w.heap.size + 1) (w.alloc (.cells #[.int .i64 r, .int .i64 cc, .slice p n c, .int .i64 sm, .slice q m d] 27)) V → CntsAt V q m cs) := fun V hV => (HSV.out V hV).cnts
        go_upto_region 5 with fail
        go_cut [] from 15 (fun wr => ∃ gb3 c3 gb7 c7 : Nat, (gb3 ≠ gb7 ∧ N ≤ gb3 ∧ N ≤ gb7) ∧ Below (w.heap.size + 1) (w.alloc (.cells #[.int .i64 r, .int .i64 cc, .slice p n c, .int .i64 sm, .slice q m d] 27)) wr ∧ BoxIs bl #[.int .i64 r, .int .i64 cc, .slice p n c, .int .i64 sm, .slice (some ⟨gb3, 0, none⟩) m c3] wr ∧ BoxIs bg #[.int .i64 r, .int .i64 cc, .slice p n c, .int .i64 sm, .slice q m d] wr ∧ BoxIs ba #[.int .i64 r, .int .i64 cc, .slice p n c, .int .i64 sm, .slice (some ⟨gb7, 0, none⟩) m c7] wr ∧ OwnRef wr N (.slice (some ⟨gb3, 0, none⟩) m c3) cs ∧ OwnRef wr N (.slice (some ⟨gb7, 0, none⟩) m c7) cs)
        case first =>
          have hB : Below (w.heap.size + 1) (w.alloc (.cells #[.int .i64 r, .int .i64 cc, .slice p n c, .int .i64 sm, .slice q m d] 27)) wc.drew := HB4.out.drew
          have hBN : Below wc.heap.size wc wc.drew := (Below.refl _ _).drew
          refine wp_region_held_drew (S := fun V => Below (w.heap.size + 1) (w.alloc (.cells #[.int .i64 r, .int .i64 cc, .slice p n c, .int .i64 sm, .slice q m d] 27)) V) (by kernel_rfl) (hB) (fun hS => ?_)
          simp only [List.size_toArray, List.length_cons, List.length_nil, Nat.reduceAdd, Array.replicate_succ, Array.replicate_zero, List.push_toArray, List.nil_append, List.cons_append]
          refine wpAnyH_take (i := 1) (v := ?_) rfl (by kernel_rfl) (by kernel_rfl) (by kernel_rfl) (fun _ _ _ h => h) (Or.inl ⟨by rfl, fun V hV => ?_⟩) (by assumption) ?_
          rotate_left
          · go_simp
            try with_reducible rfl
          try simp only [Act.put, List.getElem_toArray, List.getElem_cons_zero, List.getElem_cons_succ, List.setIfInBounds_toArray, List.set_cons_zero, List.set_cons_succ]
          refine wpAnyH_take (i := 2) (v := ?_) rfl (by kernel_rfl) (by kernel_rfl) (by kernel_rfl) (fun _ _ _ h => h) (Or.inl ⟨by rfl, fun V hV => ?_⟩) (by assumption) ?_
          rotate_left
          · have g4 := (HSV.out V hV).c4; go_simp
            try with_reducible rfl
          try simp only [Act.put, List.getElem_toArray, List.getElem_cons_zero, List.getElem_cons_succ, List.setIfInBounds_toArray, List.set_cons_zero, List.set_cons_succ]
          refine wpAnyH_take (i := 5) (v := ?_) rfl (by kernel_rfl) (by kernel_rfl) (by kernel_rfl) (fun _ _ _ h => h) (Or.inl ⟨by rfl, fun V hV => ?_⟩) (by assumption) ?_
          rotate_left
          · go_simp
            try with_reducible rfl
          try simp only [Act.put, List.getElem_toArray, List.getElem_cons_zero, List.getElem_cons_succ, List.setIfInBounds_toArray, List.set_cons_zero, List.set_cons_succ]
          refine wpAnyH_take (i := 6) (v := ?_) rfl (by kernel_rfl) (by kernel_rfl) (by kernel_rfl) (fun _ _ _ h => h) (Or.inl ⟨by rfl, fun V hV => ?_⟩) (by assumption) ?_
          rotate_left
          · have g4 := (HSV.out V hV).c4; go_simp
            try with_reducible rfl
          try simp only [Act.put, List.getElem_toArray, List.getElem_cons_zero, List.getElem_cons_succ, List.setIfInBounds_toArray, List.set_cons_zero, List.set_cons_succ]
          refine wpAnyH_ready (rs := [0, 4]) (by kernel_rfl) (by simp) ?_
          refine AllReadyH.cons (o := _) rfl (fun K hK => ?_) ?_
          · skip
            have hszp : N ≤ wc.heap.size := by rw [← HNN.out]; exact hBN.size
            obtain ⟨U0, hU0⟩ : ∃ V, (wc.drew).alloc (.cells #[] 59) = V := ⟨_, rfl⟩
            have hb : Below (wc.drew).heap.size (wc.drew) U0 := by rw [← hU0]; exact (Below.refl _ _).alloc (Nat.le_refl _) _
            have o0 : OwnRef U0 N (.slice (some ⟨wc.heap.size, 0, none⟩) 0 0) [] := by rw [← hU0]; exact ownRef_nil _ hszp
            have hz0 : Hid (U0.heap.size = wc.heap.size + 1) := by rw [← hU0]; exact World.size_alloc _ _
            replace hB := hB.trans (hb.mono (Nat.le_trans HNB.out hszp)); replace hBN := hBN.trans (hb.mono (by rw [HNN.out]; exact hszp))
            clear hb hszp
            go_simp
            refine hK.out _ _ (hB) (fun hS => ?_)
            clear hK K
            try simp only [List.setIfInBounds_toArray, List.set_cons_zero]
            refine wpAnyH_ready (rs := [3, 4]) (by kernel_rfl) (by simp) ?_
            refine AllReadyH.cons (o := _) rfl (fun K hK => ?_) ?_
            · skip
              have hszp : N ≤ U0.heap.size := by rw [← HNN.out]; exact hBN.size
              refine step_append_ref1 (by rfl) (.tmp 34) (.tmp 36) (by rfl) N _ q m d cs o0 (by rfl) (by rfl) (HCS.out _ hB) HM1.out (by have := HN.out; omega) hszp ?_
              intro gb3 c3 U3 o3 hb hk3 hg3
              replace hB := hB.trans (hb.mono HNB.out); replace hBN := hBN.trans (hb.mono (Nat.le_of_eq HNN.out))
              have hs34 : Hid (gb3 < U3.heap.size) := (World.ownsRow.lt o3 _ rfl).2
              clear hb hszp o0
              refine hK.out _ _ (hB) (fun hS => ?_)
              clear hK K
              try simp only [Act.put, List.getElem_toArray, List.getElem_cons_zero, List.getElem_cons_succ, List.setIfInBounds_toArray, List.set_cons_zero, List.set_cons_succ]
              refine wpAnyH_take (i := 8) (v := ?_) rfl (by kernel_rfl) (by kernel_rfl) (by kernel_rfl) (fun _ _ _ h => h) (Or.inl ⟨by rfl, fun V hV => ?_⟩) (by assumption) ?_
              rotate_left
              · go_simp
                try with_reducible rfl
              try simp only [Act.put, List.getElem_toArray, List.getElem_cons_zero, List.getElem_cons_succ, List.setIfInBounds_toArray, List.set_cons_zero, List.set_cons_succ]
              refine wpAnyH_ready (rs := [4]) (by kernel_rfl) (by simp) ?_
              refine AllReadyH.cons (o := _) rfl (fun K hK => ?_) AllReadyH.nil
              have hszp : N ≤ U3.heap.size := by rw [← HNN.out]; exact hBN.size
              obtain ⟨U4, hU4⟩ : ∃ V, (U3).alloc (.cells #[] 59) = V := ⟨_, rfl⟩
              have hb : Below (U3).heap.size (U3) U4 := by rw [← hU4]; exact (Below.refl _ _).alloc (Nat.le_refl _) _
              have o4 : OwnRef U4 N (.slice (some ⟨U3.heap.size, 0, none⟩) 0 0) [] := by rw [← hU4]; exact ownRef_nil _ hszp
              have hz4 : Hid (U4.heap.size = U3.heap.size + 1) := by rw [← hU4]; exact World.size_alloc _ _
              replace o3 := o3.below hb
              replace hB := hB.trans (hb.mono (Nat.le_trans HNB.out hszp)); replace hBN := hBN.trans (hb.mono (by rw [HNN.out]; exact hszp))
              clear hb hszp
              go_simp
              refine hK.out _ _ (hB) (fun hS => ?_)
              clear hK K
              try simp only [List.setIfInBounds_toArray, List.set_cons_zero, List.set_cons_succ]
              refine wpAnyH_ready (rs := [7]) (by kernel_rfl) (by simp) ?_
              refine AllReadyH.cons (o := _) rfl (fun K hK => ?_) AllReadyH.nil
              have hszp : N ≤ U4.heap.size := by rw [← HNN.out]; exact hBN.size
              refine step_append_ref1 (by rfl) (.tmp 38) (.tmp 40) (by rfl) N _ q m d cs o4 (by rfl) (by rfl) (HCS.out _ hB) HM1.out (by have := HN.out; omega) hszp ?_
              intro gb7 c7 U7 o7 hb hk7 hg7
              have hl3 := (World.ownsRow.lt o3 _ rfl).2
              have hne37 : gb3 ≠ U3.heap.size ∧ gb3 < U4.heap.size := by
                refine ⟨?_, hl3⟩
                have e3 := hz0.out; have e4 := hz4.out
                rcases hg3 with e | e
                · have e2 : wc.heap.size = gb3 := (by simpa [Value.ownBlock] using e)
                  have e5 := hs34.out; omega
                · have e5 := hs34.out; have e6 := hs34.out; omega
              have o3 := row_block o3 (fun u hu => hk7 u (World.ownsRow.lt o3 u hu).2 (by intro e; have e1 : gb3 = u := (by simpa [Value.ownBlock] using hu); have e2 : u = U3.heap.size := (by simpa [Value.ownBlock] using e); have e3 := hne37.1; omega))
              have hne : gb3 ≠ gb7 := by
                rcases hg7 with e | e
                · have e2 : U3.heap.size = gb7 := (by simpa [Value.ownBlock] using e)
                  have e3 := hne37.1; omega
                · have e3 := hne37.2; omega
              have HG37 := hid hne
              clear hne hne37 hl3
              replace hB := hB.trans (hb.mono HNB.out); replace hBN := hBN.trans (hb.mono (Nat.le_of_eq HNN.out))
              clear hb hszp o4
              refine hK.out _ _ (hB) (fun hS => ?_)
              clear hK K
              try simp only [Act.put, List.getElem_toArray, List.getElem_cons_zero, List.getElem_cons_succ, List.setIfInBounds_toArray, List.set_cons_zero, List.set_cons_succ]
              refine wpAnyH_ready (rs := [9]) (by kernel_rfl) (by simp) ?_
              refine AllReadyH.cons (o := _) rfl (fun K hK => ?_) AllReadyH.nil
              have hbx := HL4.out.keep hBN (by rw [HNN.out]; exact HLT.out.1)
              have k4 := (hbx.2 4 _ rfl).1; have f4 := (hbx.2 4 _ rfl).2
              go_simp
              obtain ⟨U9, hU9⟩ : ∃ V, (U7).setCell ⟨bl, 4, none⟩ (.slice (some ⟨gb3, 0, none⟩) m c3) = V := ⟨_, rfl⟩
              have hB2 : Below (w.heap.size + 1) (w.alloc (.cells #[.int .i64 r, .int .i64 cc, .slice p n c, .int .i64 sm, .slice q m d] 27)) U9 := by rw [← hU9]; exact hB.setCell (p := ⟨bl, 4, none⟩) (by have := HD3.out; show w.heap.size + 1 ≤ bl; omega) _
              have hbl := (show BoxIs bl _ _ from hbx.put (j := 4) (.slice (some ⟨gb3, 0, none⟩) m c3))
              have hbg := (HG4.out.keep hBN (by rw [HNN.out]; exact HLT.out.2.1)).other (k' := 4) (b' := bl) HD3.out.1.symm (.slice (some ⟨gb3, 0, none⟩) m c3)
              have hba := (HA4.out.keep hBN (by rw [HNN.out]; exact HLT.out.2.2)).other (k' := 4) (b' := bl) HD3.out.2.1.symm (.slice (some ⟨gb3, 0, none⟩) m c3)
              have o3 := row_block o3 (fun u hu => Below.heap_setCell _ ⟨bl, 4, none⟩ (.slice (some ⟨gb3, 0, none⟩) m c3) u (by have h1 := (World.ownsRow.lt o3 u hu).1; have h2 := HLT.out; show u ≠ bl; omega))
              have o7 := row_block o7 (fun u hu => Below.heap_setCell _ ⟨bl, 4, none⟩ (.slice (some ⟨gb3, 0, none⟩) m c3) u (by have h1 := (World.ownsRow.lt o7 u hu).1; have h2 := HLT.out; show u ≠ bl; omega))
              rw [hU9] at hbl hbg hba o3 o7 ⊢
              have hB := hB2
              clear hB2 k4 f4 hbx
              refine hK.out _ _ (hB) (fun hS => ?_)
              clear hK K
              try simp only [List.setIfInBounds_toArray, List.set_cons_zero, List.set_cons_succ]
              refine wpAnyH_take (i := 10) (v := ?_) rfl (by kernel_rfl) (by kernel_rfl) (by kernel_rfl) (fun _ _ _ h => h) (Or.inl ⟨by rfl, fun V hV => ?_⟩) (by assumption) ?_
              rotate_left
              · go_simp
                try with_reducible rfl
              try simp only [Act.put, List.getElem_toArray, List.getElem_cons_zero, List.getElem_cons_succ, List.setIfInBounds_toArray, List.set_cons_zero, List.set_cons_succ]
              refine wpAnyH_ready (rs := [11]) (by kernel_rfl) (by simp) ?_
              refine AllReadyH.cons (o := _) rfl (fun K hK => ?_) AllReadyH.nil
              have hbx := hba
              have k4 := (hbx.2 4 _ rfl).1; have f4 := (hbx.2 4 _ rfl).2
              go_simp
              obtain ⟨U11, hU11⟩ : ∃ V, (U9).setCell ⟨ba, 4, none⟩ (.slice (some ⟨gb7, 0, none⟩) m c7) = V := ⟨_, rfl⟩
              have hB2 : Below (w.heap.size + 1) (w.alloc (.cells #[.int .i64 r, .int .i64 cc, .slice p n c, .int .i64 sm, .slice q m d] 27)) U11 := by rw [← hU11]; exact hB.setCell (p := ⟨ba, 4, none⟩) (by have := HD3.out; show w.heap.size + 1 ≤ ba; omega) _
              replace hbl := hbl.other (k' := 4) (b' := ba) HD3.out.2.1 (.slice (some ⟨gb7, 0, none⟩) m c7)
              replace hbg := hbg.other (k' := 4) (b' := ba) HD3.out.2.2.1 (.slice (some ⟨gb7, 0, none⟩) m c7)
              have hba := (show BoxIs ba _ _ from hbx.put (j := 4) (.slice (some ⟨gb7, 0, none⟩) m c7))
              have o3 := row_block o3 (fun u hu => Below.heap_setCell _ ⟨ba, 4, none⟩ (.slice (some ⟨gb7, 0, none⟩) m c7) u (by have h1 := (World.ownsRow.lt o3 u hu).1; have h2 := HLT.out; show u ≠ ba; omega))
              have o7 := row_block o7 (fun u hu => Below.heap_setCell _ ⟨ba, 4, none⟩ (.slice (some ⟨gb7, 0, none⟩) m c7) u (by have h1 := (World.ownsRow.lt o7 u hu).1; have h2 := HLT.out; show u ≠ ba; omega))
              rw [hU11] at hbl hbg hba o3 o7 ⊢
              have hB := hB2
              clear hB2 k4 f4 hbx
              refine hK.out _ _ (hB) (fun hS => ?_)
              clear hK K
              try simp only [List.setIfInBounds_toArray, List.set_cons_zero, List.set_cons_succ]
              refine wpAnyH_done (by kernel_rfl) ?_ _
              clear hS
              go_wp2
              go_meet
              case rel => exact ⟨gb3, c3, gb7, c7, ⟨HG37.out, (World.ownsRow.lt o3 _ rfl).1, (World.ownsRow.lt o7 _ rfl).1⟩, hB, hbl, hbg, hba, o3, o7⟩
            refine AllReadyH.cons (o := _) rfl (fun K hK => ?_) AllReadyH.nil
            have hszp : N ≤ U0.heap.size := by rw [← HNN.out]; exact hBN.size
            obtain ⟨U4, hU4⟩ : ∃ V, (U0).alloc (.cells #[] 59) = V := ⟨_, rfl⟩
            have hb : Below (U0).heap.size (U0) U4 := by rw [← hU4]; exact (Below.refl _ _).alloc (Nat.le_refl _) _
            have o4 : OwnRef U4 N (.slice (some ⟨U0.heap.size, 0, none⟩) 0 0) [] := by rw [← hU4]; exact ownRef_nil _ hszp
            have hz4 : Hid (U4.heap.size = U0.heap.size + 1) := by rw [← hU4]; exact World.size_alloc _ _
            replace o0 := o0.below hb
            replace hB := hB.trans (hb.mono (Nat.le_trans HNB.out hszp)); replace hBN := hBN.trans (hb.mono (by rw [HNN.out]; exact hszp))
            clear hb hszp
            go_simp
            refine hK.out _ _ (hB) (fun hS => ?_)
            clear hK K
            try simp only [List.setIfInBounds_toArray, List.set_cons_zero, List.set_cons_succ]
            refine wpAnyH_ready (rs := [3]) (by kernel_rfl) (by simp) ?_
            refine AllReadyH.cons (o := _) rfl (fun K hK => ?_) AllReadyH.nil
            have hszp : N ≤ U4.heap.size := by rw [← HNN.out]; exact hBN.size
            refine step_append_ref1 (by rfl) (.tmp 34) (.tmp 36) (by rfl) N _ q m d cs o0 (by rfl) (by rfl) (HCS.out _ hB) HM1.out (by have := HN.out; omega) hszp ?_
            intro gb3 c3 U3 o3 hb hk3 hg3
            have o4 := row_block o4 (fun u hu => hk3 u (World.ownsRow.lt o4 u hu).2 (by intro e; have e1 : U0.heap.size = u := (by simpa [Value.ownBlock] using hu); have e2 : u = wc.heap.size := (by simpa [Value.ownBlock] using e); have e3 := hz0.out; have e4 := hz4.out; omega))
            replace hB := hB.trans (hb.mono HNB.out); replace hBN := hBN.trans (hb.mono (Nat.le_of_eq HNN.out))
            have hs34 : Hid (gb3 < U3.heap.size) := (World.ownsRow.lt o3 _ rfl).2
            clear hb hszp o0
            refine hK.out _ _ (hB) (fun hS => ?_)
            clear hK K
            try simp only [Act.put, List.getElem_toArray, List.getElem_cons_zero, List.getElem_cons_succ, List.setIfInBounds_toArray, List.set_cons_zero, List.set_cons_succ]
            refine wpAnyH_take (i := 8) (v := ?_) rfl (by kernel_rfl) (by kernel_rfl) (by kernel_rfl) (fun _ _ _ h => h) (Or.inl ⟨by rfl, fun V hV => ?_⟩) (by assumption) ?_
            rotate_left
            · go_simp
              try with_reducible rfl
            try simp only [Act.put, List.getElem_toArray, List.getElem_cons_zero, List.getElem_cons_succ, List.setIfInBounds_toArray, List.set_cons_zero, List.set_cons_succ]
            refine wpAnyH_ready (rs := [7]) (by kernel_rfl) (by simp) ?_
            refine AllReadyH.cons (o := _) rfl (fun K hK => ?_) AllReadyH.nil
            have hszp : N ≤ U3.heap.size := by rw [← HNN.out]; exact hBN.size
            refine step_append_ref1 (by rfl) (.tmp 38) (.tmp 40) (by rfl) N _ q m d cs o4 (by rfl) (by rfl) (HCS.out _ hB) HM1.out (by have := HN.out; omega) hszp ?_
            intro gb7 c7 U7 o7 hb hk7 hg7
            have hl3 := (World.ownsRow.lt o3 _ rfl).2
            have hne37 : gb3 ≠ U0.heap.size ∧ gb3 < U3.heap.size := by
              refine ⟨?_, hl3⟩
              have e3 := hz0.out; have e4 := hz4.out
              rcases hg3 with e | e
              · have e2 : wc.heap.size = gb3 := (by simpa [Value.ownBlock] using e)
                have e5 := hz4.out; omega
              · have e5 := hz4.out; have e6 := hz4.out; omega
            have o3 := row_block o3 (fun u hu => hk7 u (World.ownsRow.lt o3 u hu).2 (by intro e; have e1 : gb3 = u := (by simpa [Value.ownBlock] using hu); have e2 : u = U0.heap.size := (by simpa [Value.ownBlock] using e); have e3 := hne37.1; omega))
            have hne : gb3 ≠ gb7 := by
              rcases hg7 with e | e
              · have e2 : U0.heap.size = gb7 := (by simpa [Value.ownBlock] using e)
                have e3 := hne37.1; omega
              · have e3 := hne37.2; omega
            have HG37 := hid hne
            clear hne hne37 hl3
            replace hB := hB.trans (hb.mono HNB.out); replace hBN := hBN.trans (hb.mono (Nat.le_of_eq HNN.out))
            clear hb hszp o4
            refine hK.out _ _ (hB) (fun hS => ?_)
            clear hK K
            try simp only [Act.put, List.getElem_toArray, List.getElem_cons_zero, List.getElem_cons_succ, List.setIfInBounds_toArray, List.set_cons_zero, List.set_cons_succ]
            refine wpAnyH_ready (rs := [9]) (by kernel_rfl) (by simp) ?_
            refine AllReadyH.cons (o := _) rfl (fun K hK => ?_) AllReadyH.nil
            have hbx := HL4.out.keep hBN (by rw [HNN.out]; exact HLT.out.1)
            have k4 := (hbx.2 4 _ rfl).1; have f4 := (hbx.2 4 _ rfl).2
            go_simp
            obtain ⟨U9, hU9⟩ : ∃ V, (U7).setCell ⟨bl, 4, none⟩ (.slice (some ⟨gb3, 0, none⟩) m c3) = V := ⟨_, rfl⟩
            have hB2 : Below (w.heap.size + 1) (w.alloc (.cells #[.int .i64 r, .int .i64 cc, .slice p n c, .int .i64 sm, .slice q m d] 27)) U9 := by rw [← hU9]; exact hB.setCell (p := ⟨bl, 4, none⟩) (by have := HD3.out; show w.heap.size + 1 ≤ bl; omega) _
            have hbl := (show BoxIs bl _ _ from hbx.put (j := 4) (.slice (some ⟨gb3, 0, none⟩) m c3))
            have hbg := (HG4.out.keep hBN (by rw [HNN.out]; exact HLT.out.2.1)).other (k' := 4) (b' := bl) HD3.out.1.symm (.slice (some ⟨gb3, 0, none⟩) m c3)
            have hba := (HA4.out.keep hBN (by rw [HNN.out]; exact HLT.out.2.2)).other (k' := 4) (b' := bl) HD3.out.2.1.symm (.slice (some ⟨gb3, 0, none⟩) m c3)
            have o3 := row_block o3 (fun u hu => Below.heap_setCell _ ⟨bl, 4, none⟩ (.slice (some ⟨gb3, 0, none⟩) m c3) u (by have h1 := (World.ownsRow.lt o3 u hu).1; have h2 := HLT.out; show u ≠ bl; omega))
            have o7 := row_block o7 (fun u hu => Below.heap_setCell _ ⟨bl, 4, none⟩ (.slice (some ⟨gb3, 0, none⟩) m c3) u (by have h1 := (World.ownsRow.lt o7 u hu).1; have h2 := HLT.out; show u ≠ bl; omega))
            rw [hU9] at hbl hbg hba o3 o7 ⊢
            have hB := hB2
            clear hB2 k4 f4 hbx
            refine hK.out _ _ (hB) (fun hS => ?_)
            clear hK K
            try simp only [List.setIfInBounds_toArray, List.set_cons_zero, List.set_cons_succ]
            refine wpAnyH_take (i := 10) (v := ?_) rfl (by kernel_rfl) (by kernel_rfl) (by kernel_rfl) (fun _ _ _ h => h) (Or.inl ⟨by rfl, fun V hV => ?_⟩) (by assumption) ?_
            rotate_left
            · go_simp
              try with_reducible rfl
            try simp only [Act.put, List.getElem_toArray, List.getElem_cons_zero, List.getElem_cons_succ, List.setIfInBounds_toArray, List.set_cons_zero, List.set_cons_succ]
            refine wpAnyH_ready (rs := [11]) (by kernel_rfl) (by simp) ?_
            refine AllReadyH.cons (o := _) rfl (fun K hK => ?_) AllReadyH.nil
            have hbx := hba
            have k4 := (hbx.2 4 _ rfl).1; have f4 := (hbx.2 4 _ rfl).2
            go_simp
            obtain ⟨U11, hU11⟩ : ∃ V, (U9).setCell ⟨ba, 4, none⟩ (.slice (some ⟨gb7, 0, none⟩) m c7) = V := ⟨_, rfl⟩
            have hB2 : Below (w.heap.size + 1) (w.alloc (.cells #[.int .i64 r, .int .i64 cc, .slice p n c, .int .i64 sm, .slice q m d] 27)) U11 := by rw [← hU11]; exact hB.setCell (p := ⟨ba, 4, none⟩) (by have := HD3.out; show w.heap.size + 1 ≤ ba; omega) _
            replace hbl := hbl.other (k' := 4) (b' := ba) HD3.out.2.1 (.slice (some ⟨gb7, 0, none⟩) m c7)
            replace hbg := hbg.other (k' := 4) (b' := ba) HD3.out.2.2.1 (.slice (some ⟨gb7, 0, none⟩) m c7)
            have hba := (show BoxIs ba _ _ from hbx.put (j := 4) (.slice (some ⟨gb7, 0, none⟩) m c7))
            have o3 := row_block o3 (fun u hu => Below.heap_setCell _ ⟨ba, 4, none⟩ (.slice (some ⟨gb7, 0, none⟩) m c7) u (by have h1 := (World.ownsRow.lt o3 u hu).1; have h2 := HLT.out; show u ≠ ba; omega))
            have o7 := row_block o7 (fun u hu => Below.heap_setCell _ ⟨ba, 4, none⟩ (.slice (some ⟨gb7, 0, none⟩) m c7) u (by have h1 := (World.ownsRow.lt o7 u hu).1; have h2 := HLT.out; show u ≠ ba; omega))
            rw [hU11] at hbl hbg hba o3 o7 ⊢
            have hB := hB2
            clear hB2 k4 f4 hbx
            refine hK.out _ _ (hB) (fun hS => ?_)
            clear hK K
            try simp only [List.setIfInBounds_toArray, List.set_cons_zero, List.set_cons_succ]
            refine wpAnyH_done (by kernel_rfl) ?_ _
            clear hS
            go_wp2
            go_meet
            case rel => exact ⟨gb3, c3, gb7, c7, ⟨HG37.out, (World.ownsRow.lt o3 _ rfl).1, (World.ownsRow.lt o7 _ rfl).1⟩, hB, hbl, hbg, hba, o3, o7⟩
          refine AllReadyH.cons (o := _) rfl (fun K hK => ?_) AllReadyH.nil
          have hszp : N ≤ wc.heap.size := by rw [← HNN.out]; exact hBN.size
          obtain ⟨U4, hU4⟩ : ∃ V, (wc.drew).alloc (.cells #[] 59) = V := ⟨_, rfl⟩
          have hb : Below (wc.drew).heap.size (wc.drew) U4 := by rw [← hU4]; exact (Below.refl _ _).alloc (Nat.le_refl _) _
          have o4 : OwnRef U4 N (.slice (some ⟨wc.heap.size, 0, none⟩) 0 0) [] := by rw [← hU4]; exact ownRef_nil _ hszp
          have hz4 : Hid (U4.heap.size = wc.heap.size + 1) := by rw [← hU4]; exact World.size_alloc _ _
          replace hB := hB.trans (hb.mono (Nat.le_trans HNB.out hszp)); replace hBN := hBN.trans (hb.mono (by rw [HNN.out]; exact hszp))
          clear hb hszp
          go_simp
          refine hK.out _ _ (hB) (fun hS => ?_)
          clear hK K
          try simp only [List.setIfInBounds_toArray, List.set_cons_zero, List.set_cons_succ]
          refine wpAnyH_ready (rs := [0]) (by kernel_rfl) (by simp) ?_
          refine AllReadyH.cons (o := _) rfl (fun K hK => ?_) AllReadyH.nil
          have hszp : N ≤ U4.heap.size := by rw [← HNN.out]; exact hBN.size
          obtain ⟨U0, hU0⟩ : ∃ V, (U4).alloc (.cells #[] 59) = V := ⟨_, rfl⟩
          have hb : Below (U4).heap.size (U4) U0 := by rw [← hU0]; exact (Below.refl _ _).alloc (Nat.le_refl _) _
          have o0 : OwnRef U0 N (.slice (some ⟨U4.heap.size, 0, none⟩) 0 0) [] := by rw [← hU0]; exact ownRef_nil _ hszp
          have hz0 : Hid (U0.heap.size = U4.heap.size + 1) := by rw [← hU0]; exact World.size_alloc _ _
          replace o4 := o4.below hb
          replace hB := hB.trans (hb.mono (Nat.le_trans HNB.out hszp)); replace hBN := hBN.trans (hb.mono (by rw [HNN.out]; exact hszp))
          clear hb hszp
          go_simp
          refine hK.out _ _ (hB) (fun hS => ?_)
          clear hK K
          try simp only [List.setIfInBounds_toArray, List.set_cons_zero]
          refine wpAnyH_ready (rs := [3]) (by kernel_rfl) (by simp) ?_
          refine AllReadyH.cons (o := _) rfl (fun K hK => ?_) AllReadyH.nil
          have hszp : N ≤ U0.heap.size := by rw [← HNN.out]; exact hBN.size
          refine step_append_ref1 (by rfl) (.tmp 34) (.tmp 36) (by rfl) N _ q m d cs o0 (by rfl) (by rfl) (HCS.out _ hB) HM1.out (by have := HN.out; omega) hszp ?_
          intro gb3 c3 U3 o3 hb hk3 hg3
          have o4 := row_block o4 (fun u hu => hk3 u (World.ownsRow.lt o4 u hu).2 (by intro e; have e1 : wc.heap.size = u := (by simpa [Value.ownBlock] using hu); have e2 : u = U4.heap.size := (by simpa [Value.ownBlock] using e); have e3 := hz0.out; have e4 := hz4.out; omega))
          replace hB := hB.trans (hb.mono HNB.out); replace hBN := hBN.trans (hb.mono (Nat.le_of_eq HNN.out))
          have hs34 : Hid (gb3 < U3.heap.size) := (World.ownsRow.lt o3 _ rfl).2
          clear hb hszp o0
          refine hK.out _ _ (hB) (fun hS => ?_)
          clear hK K
          try simp only [Act.put, List.getElem_toArray, List.getElem_cons_zero, List.getElem_cons_succ, List.setIfInBounds_toArray, List.set_cons_zero, List.set_cons_succ]
          refine wpAnyH_take (i := 8) (v := ?_) rfl (by kernel_rfl) (by kernel_rfl) (by kernel_rfl) (fun _ _ _ h => h) (Or.inl ⟨by rfl, fun V hV => ?_⟩) (by assumption) ?_
          rotate_left
          · go_simp
            try with_reducible rfl
          try simp only [Act.put, List.getElem_toArray, List.getElem_cons_zero, List.getElem_cons_succ, List.setIfInBounds_toArray, List.set_cons_zero, List.set_cons_succ]
          refine wpAnyH_ready (rs := [7]) (by kernel_rfl) (by simp) ?_
          refine AllReadyH.cons (o := _) rfl (fun K hK => ?_) AllReadyH.nil
          have hszp : N ≤ U3.heap.size := by rw [← HNN.out]; exact hBN.size
          refine step_append_ref1 (by rfl) (.tmp 38) (.tmp 40) (by rfl) N _ q m d cs o4 (by rfl) (by rfl) (HCS.out _ hB) HM1.out (by have := HN.out; omega) hszp ?_
          intro gb7 c7 U7 o7 hb hk7 hg7
          have hl3 := (World.ownsRow.lt o3 _ rfl).2
          have hne37 : gb3 ≠ wc.heap.size ∧ gb3 < U3.heap.size := by
            refine ⟨?_, hl3⟩
            have e3 := hz0.out; have e4 := hz4.out
            rcases hg3 with e | e
            · have e2 : U4.heap.size = gb3 := (by simpa [Value.ownBlock] using e)
              have e5 := hz4.out; omega
            · have e5 := hz4.out; have e6 := hz4.out; omega
          have o3 := row_block o3 (fun u hu => hk7 u (World.ownsRow.lt o3 u hu).2 (by intro e; have e1 : gb3 = u := (by simpa [Value.ownBlock] using hu); have e2 : u = wc.heap.size := (by simpa [Value.ownBlock] using e); have e3 := hne37.1; omega))
          have hne : gb3 ≠ gb7 := by
            rcases hg7 with e | e
            · have e2 : wc.heap.size = gb7 := (by simpa [Value.ownBlock] using e)
              have e3 := hne37.1; omega
            · have e3 := hne37.2; omega
          have HG37 := hid hne
          clear hne hne37 hl3
          replace hB := hB.trans (hb.mono HNB.out); replace hBN := hBN.trans (hb.mono (Nat.le_of_eq HNN.out))
          clear hb hszp o4
          refine hK.out _ _ (hB) (fun hS => ?_)
          clear hK K
          try simp only [Act.put, List.getElem_toArray, List.getElem_cons_zero, List.getElem_cons_succ, List.setIfInBounds_toArray, List.set_cons_zero, List.set_cons_succ]
          refine wpAnyH_ready (rs := [9]) (by kernel_rfl) (by simp) ?_
          refine AllReadyH.cons (o := _) rfl (fun K hK => ?_) AllReadyH.nil
          have hbx := HL4.out.keep hBN (by rw [HNN.out]; exact HLT.out.1)
          have k4 := (hbx.2 4 _ rfl).1; have f4 := (hbx.2 4 _ rfl).2
          go_simp
          obtain ⟨U9, hU9⟩ : ∃ V, (U7).setCell ⟨bl, 4, none⟩ (.slice (some ⟨gb3, 0, none⟩) m c3) = V := ⟨_, rfl⟩
          have hB2 : Below (w.heap.size + 1) (w.alloc (.cells #[.int .i64 r, .int .i64 cc, .slice p n c, .int .i64 sm, .slice q m d] 27)) U9 := by rw [← hU9]; exact hB.setCell (p := ⟨bl, 4, none⟩) (by have := HD3.out; show w.heap.size + 1 ≤ bl; omega) _
          have hbl := (show BoxIs bl _ _ from hbx.put (j := 4) (.slice (some ⟨gb3, 0, none⟩) m c3))
          have hbg := (HG4.out.keep hBN (by rw [HNN.out]; exact HLT.out.2.1)).other (k' := 4) (b' := bl) HD3.out.1.symm (.slice (some ⟨gb3, 0, none⟩) m c3)
          have hba := (HA4.out.keep hBN (by rw [HNN.out]; exact HLT.out.2.2)).other (k' := 4) (b' := bl) HD3.out.2.1.symm (.slice (some ⟨gb3, 0, none⟩) m c3)
          have o3 := row_block o3 (fun u hu => Below.heap_setCell _ ⟨bl, 4, none⟩ (.slice (some ⟨gb3, 0, none⟩) m c3) u (by have h1 := (World.ownsRow.lt o3 u hu).1; have h2 := HLT.out; show u ≠ bl; omega))
          have o7 := row_block o7 (fun u hu => Below.heap_setCell _ ⟨bl, 4, none⟩ (.slice (some ⟨gb3, 0, none⟩) m c3) u (by have h1 := (World.ownsRow.lt o7 u hu).1; have h2 := HLT.out; show u ≠ bl; omega))
          rw [hU9] at hbl hbg hba o3 o7 ⊢
          have hB := hB2
          clear hB2 k4 f4 hbx
          refine hK.out _ _ (hB) (fun hS => ?_)
          clear hK K
          try simp only [List.setIfInBounds_toArray, List.set_cons_zero, List.set_cons_succ]
          refine wpAnyH_take (i := 10) (v := ?_) rfl (by kernel_rfl) (by kernel_rfl) (by kernel_rfl) (fun _ _ _ h => h) (Or.inl ⟨by rfl, fun V hV => ?_⟩) (by assumption) ?_
          rotate_left
          · go_simp
            try with_reducible rfl
          try simp only [Act.put, List.getElem_toArray, List.getElem_cons_zero, List.getElem_cons_succ, List.setIfInBounds_toArray, List.set_cons_zero, List.set_cons_succ]
          refine wpAnyH_ready (rs := [11]) (by kernel_rfl) (by simp) ?_
          refine AllReadyH.cons (o := _) rfl (fun K hK => ?_) AllReadyH.nil
          have hbx := hba
          have k4 := (hbx.2 4 _ rfl).1; have f4 := (hbx.2 4 _ rfl).2
          go_simp
          obtain ⟨U11, hU11⟩ : ∃ V, (U9).setCell ⟨ba, 4, none⟩ (.slice (some ⟨gb7, 0, none⟩) m c7) = V := ⟨_, rfl⟩
          have hB2 : Below (w.heap.size + 1) (w.alloc (.cells #[.int .i64 r, .int .i64 cc, .slice p n c, .int .i64 sm, .slice q m d] 27)) U11 := by rw [← hU11]; exact hB.setCell (p := ⟨ba, 4, none⟩) (by have := HD3.out; show w.heap.size + 1 ≤ ba; omega) _
          replace hbl := hbl.other (k' := 4) (b' := ba) HD3.out.2.1 (.slice (some ⟨gb7, 0, none⟩) m c7)
          replace hbg := hbg.other (k' := 4) (b' := ba) HD3.out.2.2.1 (.slice (some ⟨gb7, 0, none⟩) m c7)
          have hba := (show BoxIs ba _ _ from hbx.put (j := 4) (.slice (some ⟨gb7, 0, none⟩) m c7))
          have o3 := row_block o3 (fun u hu => Below.heap_setCell _ ⟨ba, 4, none⟩ (.slice (some ⟨gb7, 0, none⟩) m c7) u (by have h1 := (World.ownsRow.lt o3 u hu).1; have h2 := HLT.out; show u ≠ ba; omega))
          have o7 := row_block o7 (fun u hu => Below.heap_setCell _ ⟨ba, 4, none⟩ (.slice (some ⟨gb7, 0, none⟩) m c7) u (by have h1 := (World.ownsRow.lt o7 u hu).1; have h2 := HLT.out; show u ≠ ba; omega))
          rw [hU11] at hbl hbg hba o3 o7 ⊢
          have hB := hB2
          clear hB2 k4 f4 hbx
          refine hK.out _ _ (hB) (fun hS => ?_)
          clear hK K
          try simp only [List.setIfInBounds_toArray, List.set_cons_zero, List.set_cons_succ]
          refine wpAnyH_done (by kernel_rfl) ?_ _
          clear hS
          go_wp2
          go_meet
          case rel => exact ⟨gb3, c3, gb7, c7, ⟨HG37.out, (World.ownsRow.lt o3 _ rfl).1, (World.ownsRow.lt o7 _ rfl).1⟩, hB, hbl, hbg, hba, o3, o7⟩
        case rest =>
          obtain ⟨gb3, c3, gb7, c7, hgs, hB, hbl, hbg, hba, o3, o7⟩ := hcut
          have HGS := hid hgs
          clear hgs
          obtain ⟨x, hx0⟩ : ∃ z, cs[k]? = some z := ⟨cs[k]'(by have := HCW.out.1; have := HKM.out; omega), List.getElem?_eq_getElem _⟩
          have HX0 := hid hx0
          clear hx0
          have hkm : k < m := HKM.out
          obtain ⟨wd, hwd⟩ : ∃ z, wc = z := ⟨_, rfl⟩
          rw [hwd] at hB hbl hbg hba o3 o7 ⊢
          clear hwd
          have HBL := hid hbl; have HBG := hid hbg; have HBA := hid hba; have HO3 := hid o3; have HO7 := hid o7; have HBD := hid hB
          clear hbl hbg hba o3 o7 hB
          go_wp2_with fail
          refine wp_region_held_drew (S := fun V => Below (w.heap.size + 1) (w.alloc (.cells #[.int .i64 r, .int .i64 cc, .slice p n c, .int .i64 sm, .slice q m d] 27)) V ∧ BoxIs bl #[.int .i64 r, .int .i64 cc, .slice p n c, .int .i64 sm, .slice (some ⟨gb3, 0, none⟩) m c3] V ∧ BoxIs ba #[.int .i64 r, .int .i64 cc, .slice p n c, .int .i64 sm, .slice (some ⟨gb7, 0, none⟩) m c7] V) (by kernel_rfl) (⟨HBD.out.drew, HBL.out, HBA.out⟩) (fun hS => ?_)
          simp only [List.size_toArray, List.length_cons, List.length_nil, Nat.reduceAdd, Array.replicate_succ, Array.replicate_zero, List.push_toArray, List.nil_append, List.cons_append]
          refine wpAnyH_take (i := 0) (v := ?_) rfl (by kernel_rfl) (by kernel_rfl) (by kernel_rfl) (fun _ _ _ h => h) (Or.inl ⟨by rfl, fun V hV => ?_⟩) (by assumption) ?_
          rotate_left
          · go_simp
            try with_reducible rfl
          try simp only [Act.put, List.getElem_toArray, List.getElem_cons_zero, List.setIfInBounds_toArray, List.set_cons_zero, List.set_cons_succ]
          refine wpAnyH_take (i := 1) (v := ?_) rfl (by kernel_rfl) (by kernel_rfl) (by kernel_rfl) (fun _ _ _ h => h) (Or.inl ⟨by rfl, fun V hV => ?_⟩) (by assumption) ?_
          rotate_left
          · have k4 := (hV.2.1.2 4 _ rfl).1; go_simp
            try with_reducible rfl
          try simp only [Act.put, List.getElem_toArray, List.getElem_cons_zero, List.getElem_cons_succ, List.setIfInBounds_toArray, List.set_cons_zero, List.set_cons_succ]
          refine wpAnyH_take (i := 2) (v := ?_) rfl (by kernel_rfl) (by kernel_rfl) (by kernel_rfl) (fun _ _ _ h => h) (Or.inl ⟨by rfl, fun V hV => ?_⟩) (by assumption) ?_
          rotate_left
          · go_simp
            try with_reducible rfl
          try simp only [Act.put, List.getElem_toArray, List.getElem_cons_zero, List.getElem_cons_succ, List.setIfInBounds_toArray, List.set_cons_zero, List.set_cons_succ]
          refine wpAnyH_take (i := 3) (v := ?_) rfl (by kernel_rfl) (by kernel_rfl) (by kernel_rfl) (fun _ _ _ h => h) (Or.inl ⟨by rfl, fun V hV => ?_⟩) (by assumption) ?_
          rotate_left
          · go_simp
            try with_reducible rfl
          try simp only [Act.put, List.getElem_toArray, List.getElem_cons_zero, List.getElem_cons_succ, List.setIfInBounds_toArray, List.set_cons_zero, List.set_cons_succ]
          refine wpAnyH_take (i := 4) (v := ?_) rfl (by kernel_rfl) (by kernel_rfl) (by kernel_rfl) (fun _ _ _ h => h) (Or.inl ⟨by rfl, fun V hV => ?_⟩) (by assumption) ?_
          rotate_left
          · have k4 := (hV.2.2.2 4 _ rfl).1; go_simp
            try with_reducible rfl
          try simp only [Act.put, List.getElem_toArray, List.getElem_cons_zero, List.getElem_cons_succ, List.setIfInBounds_toArray, List.set_cons_zero, List.set_cons_succ]
          refine wpAnyH_take (i := 5) (v := ?_) rfl (by kernel_rfl) (by kernel_rfl) (by kernel_rfl) (fun _ _ _ h => h) (Or.inl ⟨by rfl, fun V hV => ?_⟩) (by assumption) ?_
          rotate_left
          · go_simp
            try with_reducible rfl
          try simp only [Act.put, List.getElem_toArray, List.getElem_cons_zero, List.getElem_cons_succ, List.setIfInBounds_toArray, List.set_cons_zero, List.set_cons_succ]
          refine wpAnyH_take (i := 6) (v := ?_) rfl (by kernel_rfl) (by kernel_rfl) (by kernel_rfl) (fun _ _ _ h => h) (Or.inl ⟨by rfl, fun V hV => ?_⟩) (by assumption) ?_
          rotate_left
          · go_simp
            try with_reducible rfl
          try simp only [Act.put, List.getElem_toArray, List.getElem_cons_zero, List.getElem_cons_succ, List.setIfInBounds_toArray, List.set_cons_zero, List.set_cons_succ]
          refine wpAnyH_take (i := 7) (v := ?_) rfl (by kernel_rfl) (by kernel_rfl) (by kernel_rfl) (fun _ _ _ h => h) (Or.inl ⟨by rfl, fun V hV => ?_⟩) (by assumption) ?_
          rotate_left
          · go_simp
            try with_reducible rfl
          try simp only [Act.put, List.getElem_toArray, List.getElem_cons_zero, List.getElem_cons_succ, List.setIfInBounds_toArray, List.set_cons_zero, List.set_cons_succ]
          refine wpAnyH_ready (rs := [8]) (by kernel_rfl) (by simp) ?_
          refine AllReadyH.cons (o := _) rfl (fun K hK => ?_) AllReadyH.nil
          have o3 : OwnRef wd.drew N (.slice (some ⟨gb3, 0, none⟩) m c3) cs := HO3.out; have o7 : OwnRef wd.drew N (.slice (some ⟨gb7, 0, none⟩) m c7) cs := HO7.out; have hbl : BoxIs bl #[.int .i64 r, .int .i64 cc, .slice p n c, .int .i64 sm, .slice (some ⟨gb3, 0, none⟩) m c3] wd.drew := HBL.out; have hbg : BoxIs bg #[.int .i64 r, .int .i64 cc, .slice p n c, .int .i64 sm, .slice q m d] wd.drew := HBG.out; have hba : BoxIs ba #[.int .i64 r, .int .i64 cc, .slice p n c, .int .i64 sm, .slice (some ⟨gb7, 0, none⟩) m c7] wd.drew := HBA.out; have hB := hS.1
          have kc : (wd.drew).cell? ⟨gb3, k * 4 + 3, none⟩ = some (.bool x.late) := by obtain ⟨p7, c9, e7, h7⟩ := o3.slice; cases e7; have h8 := CntsAt.late h7 HX0.out; rw [Nat.zero_add] at h8; exact h8
          have kf : (wd.drew).frozen? ⟨gb3, k * 4 + 3, none⟩ = false := by obtain ⟨p7, c9, e7, h7⟩ := o3.slice; have h9 := HCW.out.1; exact World.ownsRow.frozenAt (n := cs.length) (cap := c3) (by rw [← h9]; have h8 := o3; unfold OwnRef at h8; rw [← h9] at h8; exact h8) _
          go_simp
          obtain ⟨Y8, hY8⟩ : ∃ V, (wd.setCell ⟨gb3, k * 4 + 3, none⟩ (.bool true)).drew = V := ⟨_, rfl⟩
          replace hB := hB.setCell (p := ⟨gb3, k * 4 + 3, none⟩) (by have h1 := HGS.out; have h2 := HNB.out; show w.heap.size + 1 ≤ gb3; omega) (.bool true)
          replace o3 := o3.late (k := k) HCW.out.1 (by have h9 := HCW.out.1; have h8 := HKM.out; omega) true
          have o7 := row_block o7 (fun u hu => Below.heap_setCell _ ⟨gb3, k * 4 + 3, none⟩ (.bool true) u (by have e1 : gb7 = u := (by simpa [Value.ownBlock] using hu); have h2 := HGS.out; show u ≠ gb3; omega))
          replace hbl := hbl.other (k' := k * 4 + 3) (b' := gb3) (by have h1 := HGS.out; have h2 := HLT.out; omega) (.bool true); replace hbg := hbg.other (k' := k * 4 + 3) (b' := gb3) (by have h1 := HGS.out; have h2 := HLT.out; omega) (.bool true); replace hba := hba.other (k' := k * 4 + 3) (b' := gb3) (by have h1 := HGS.out; have h2 := HLT.out; omega) (.bool true)
          replace hB : Below (w.heap.size + 1) (w.alloc (.cells #[.int .i64 r, .int .i64 cc, .slice p n c, .int .i64 sm, .slice q m d] 27)) Y8 := by rw [← hY8]; exact hB
          replace hbl : BoxIs bl #[.int .i64 r, .int .i64 cc, .slice p n c, .int .i64 sm, .slice (some ⟨gb3, 0, none⟩) m c3] Y8 := by rw [← hY8]; exact hbl
          replace hbg : BoxIs bg #[.int .i64 r, .int .i64 cc, .slice p n c, .int .i64 sm, .slice q m d] Y8 := by rw [← hY8]; exact hbg
          replace hba : BoxIs ba #[.int .i64 r, .int .i64 cc, .slice p n c, .int .i64 sm, .slice (some ⟨gb7, 0, none⟩) m c7] Y8 := by rw [← hY8]; exact hba
          replace o3 : OwnRef Y8 N (.slice (some ⟨gb3, 0, none⟩) m c3) (lateAt cs k true) := by rw [← hY8]; exact o3
          replace o7 : OwnRef Y8 N (.slice (some ⟨gb7, 0, none⟩) m c7) cs := by rw [← hY8]; exact o7
          rw [hY8]
          clear kc kf
          refine hK.out _ _ (⟨hB, hbl, hba⟩) (fun hS => ?_)
          clear hK K
          try simp only [List.setIfInBounds_toArray, List.set_cons_zero, List.set_cons_succ]
          refine wpAnyH_take (i := 9) (v := ?_) rfl (by kernel_rfl) (by kernel_rfl) (by kernel_rfl) (fun _ _ _ h => h) (Or.inl ⟨by rfl, fun V hV => ?_⟩) (by assumption) ?_
          rotate_left
          · go_simp
            try with_reducible rfl
          try simp only [Act.put, List.getElem_toArray, List.getElem_cons_zero, List.getElem_cons_succ, List.setIfInBounds_toArray, List.set_cons_zero, List.set_cons_succ]
          refine wpAnyH_take (i := 10) (v := ?_) rfl (by kernel_rfl) (by kernel_rfl) (by kernel_rfl) (fun _ _ _ h => h) (Or.inl ⟨by rfl, fun V hV => ?_⟩) (by assumption) ?_
          rotate_left
          · go_simp
            try with_reducible rfl
          try simp only [Act.put, List.getElem_toArray, List.getElem_cons_zero, List.getElem_cons_succ, List.setIfInBounds_toArray, List.set_cons_zero, List.set_cons_succ]
          refine wpAnyH_ready (rs := [11]) (by kernel_rfl) (by simp) ?_
          refine AllReadyH.cons (o := _) rfl (fun K hK => ?_) AllReadyH.nil
          have kc : (Y8).cell? ⟨gb7, k * 4 + 3, none⟩ = some (.bool x.late) := by obtain ⟨p7, c9, e7, h7⟩ := o7.slice; cases e7; have h8 := CntsAt.late h7 HX0.out; rw [Nat.zero_add] at h8; exact h8
          have kf : (Y8).frozen? ⟨gb7, k * 4 + 3, none⟩ = false := by obtain ⟨p7, c9, e7, h7⟩ := o7.slice; have h9 := HCW.out.1; exact World.ownsRow.frozenAt (n := cs.length) (cap := c7) (by rw [← h9]; have h8 := o7; unfold OwnRef at h8; rw [← h9] at h8; exact h8) _
          go_simp
          obtain ⟨Y11, hY11⟩ : ∃ V, Y8.setCell ⟨gb7, k * 4 + 3, none⟩ (.bool false) = V := ⟨_, rfl⟩
          replace hB := hB.setCell (p := ⟨gb7, k * 4 + 3, none⟩) (by have h1 := HGS.out; have h2 := HNB.out; show w.heap.size + 1 ≤ gb7; omega) (.bool false)
          replace o7 := o7.late (k := k) HCW.out.1 (by have h9 := HCW.out.1; have h8 := HKM.out; omega) false
          have o3 := row_block o3 (fun u hu => Below.heap_setCell _ ⟨gb7, k * 4 + 3, none⟩ (.bool false) u (by have e1 : gb3 = u := (by simpa [Value.ownBlock] using hu); have h2 := HGS.out; show u ≠ gb7; omega))
          replace hbl := hbl.other (k' := k * 4 + 3) (b' := gb7) (by have h1 := HGS.out; have h2 := HLT.out; omega) (.bool false); replace hbg := hbg.other (k' := k * 4 + 3) (b' := gb7) (by have h1 := HGS.out; have h2 := HLT.out; omega) (.bool false); replace hba := hba.other (k' := k * 4 + 3) (b' := gb7) (by have h1 := HGS.out; have h2 := HLT.out; omega) (.bool false)
          replace hB : Below (w.heap.size + 1) (w.alloc (.cells #[.int .i64 r, .int .i64 cc, .slice p n c, .int .i64 sm, .slice q m d] 27)) Y11 := by rw [← hY11]; exact hB
          replace hbl : BoxIs bl #[.int .i64 r, .int .i64 cc, .slice p n c, .int .i64 sm, .slice (some ⟨gb3, 0, none⟩) m c3] Y11 := by rw [← hY11]; exact hbl
          replace hbg : BoxIs bg #[.int .i64 r, .int .i64 cc, .slice p n c, .int .i64 sm, .slice q m d] Y11 := by rw [← hY11]; exact hbg
          replace hba : BoxIs ba #[.int .i64 r, .int .i64 cc, .slice p n c, .int .i64 sm, .slice (some ⟨gb7, 0, none⟩) m c7] Y11 := by rw [← hY11]; exact hba
          replace o3 : OwnRef Y11 N (.slice (some ⟨gb3, 0, none⟩) m c3) (lateAt cs k true) := by rw [← hY11]; exact o3
          replace o7 : OwnRef Y11 N (.slice (some ⟨gb7, 0, none⟩) m c7) (lateAt cs k false) := by rw [← hY11]; exact o7
          rw [hY11]
          clear kc kf
          refine hK.out _ _ (⟨hB, hbl, hba⟩) (fun hS => ?_)
          clear hK K
          try simp only [List.setIfInBounds_toArray, List.set_cons_zero, List.set_cons_succ]
          refine wpAnyH_done (by kernel_rfl) ?_ _
          clear hS
          have HBL6 := hid hbl; have HBG6 := hid hbg; have HBA6 := hid hba; have HO36 := hid o3; have HO76 := hid o7; have HB6 := hid hB
          clear hbl hbg hba o3 o7 hB
          obtain ⟨x2, -, bq, oq, hq, -, -, -, -, -⟩ := HCW.out.at hkm
          subst hq
          have hmd : m ≤ d := HMD.out
          obtain ⟨q10, hq10⟩ : ∃ z : Option Addr, (if d = k + 1 then some ⟨bq, oq, none⟩ else some ⟨bq, oq + (k + 1) * 4, none⟩) = z := ⟨_, rfl⟩
          have HQE := hid hq10
          have HQ10 : Hid (∀ V, CntsAt V (some ⟨bq, oq, none⟩) m cs → CntsAt V q10 (m - (k + 1)) (cs.drop (k + 1))) := by
            intro V hV
            by_cases hdk : d = k + 1
            · have hmk : m = k + 1 := by omega
              have h0 : cs.drop (k + 1) = [] := by rw [List.drop_eq_nil_iff, ← hV.1]; omega
              rw [h0, show m - (k + 1) = 0 by omega]
              exact ⟨rfl, fun i c hi => by simp at hi⟩
            · rw [if_neg hdk] at hq10
              rw [← hq10]
              exact (hV.sub hkm).2
          clear hq10
          obtain ⟨M, hM⟩ : ∃ z, Y11.heap.size = z := ⟨_, rfl⟩
          have HMM := hid hM
          clear hM
          have HLT7 : Hid (bl < M ∧ bg < M ∧ ba < M ∧ w.heap.size + 1 ≤ M) := by show _ ∧ _; rw [← HMM.out]; exact ⟨HBL6.out.1, HBG6.out.1, HBA6.out.1, by have h8 := HB6.out.size; rw [World.size_alloc] at h8; exact h8⟩
          go_wp2_with fail
          have hB : Below (w.heap.size + 1) _ Y11.drew := HB6.out.drew
          have hBN : Below M Y11 Y11.drew := (Below.refl _ _).drew
          refine wp_region_held_drew (S := fun V => Below (w.heap.size + 1) (w.alloc (.cells #[.int .i64 r, .int .i64 cc, .slice p n c, .int .i64 sm, .slice (some ⟨bq, oq, none⟩) m d] 27)) V) (by kernel_rfl) (hB) (fun hS => ?_)
          simp only [List.size_toArray, List.length_cons, List.length_nil, Nat.reduceAdd, Array.replicate_succ, Array.replicate_zero, List.push_toArray, List.nil_append, List.cons_append]
          refine wpAnyH_take (i := 1) (v := ?_) rfl (by kernel_rfl) (by kernel_rfl) (by kernel_rfl) (fun _ _ _ h => h) (Or.inl ⟨by rfl, fun V hV => ?_⟩) (by assumption) ?_
          rotate_left
          · go_simp
            try with_reducible rfl
          try simp only [Act.put, List.getElem_toArray, List.getElem_cons_zero, List.getElem_cons_succ, List.setIfInBounds_toArray, List.set_cons_zero, List.set_cons_succ]
          refine wpAnyH_take (i := 2) (v := ?_) rfl (by kernel_rfl) (by kernel_rfl) (by kernel_rfl) (fun _ _ _ h => h) (Or.inl ⟨by rfl, fun V hV => ?_⟩) (by assumption) ?_
          rotate_left
          · have g4 := (HSV.out V hV).c4; go_simp
            try with_reducible rfl
          try simp only [Act.put, List.getElem_toArray, List.getElem_cons_zero, List.getElem_cons_succ, List.setIfInBounds_toArray, List.set_cons_zero, List.set_cons_succ]
          refine wpAnyH_take (i := 3) (v := ?_) rfl (by kernel_rfl) (by kernel_rfl) (by kernel_rfl) (fun _ _ _ h => h) (Or.inl ⟨by rfl, fun V hV => ?_⟩) (by assumption) ?_
          rotate_left
          · go_simp
            try with_reducible rfl
          try simp only [Act.put, List.getElem_toArray, List.getElem_cons_zero, List.getElem_cons_succ, List.setIfInBounds_toArray, List.set_cons_zero, List.set_cons_succ]
          refine wpAnyH_take (i := 4) (v := ?_) rfl (by kernel_rfl) (by kernel_rfl) (by kernel_rfl) (fun _ _ _ h => h) (Or.inl ⟨by rfl, fun V hV => ?_⟩) (by assumption) ?_
          rotate_left
          · have e1 : k ≤ d := (by omega); have e2 : (k : Int) ≤ d := (by omega); have e3 : (0 : Int) ≤ k := (by omega); go_simp
            try with_reducible rfl
          try simp only [Act.put, List.getElem_toArray, List.getElem_cons_zero, List.getElem_cons_succ, List.setIfInBounds_toArray, List.set_cons_zero, List.set_cons_succ]
          refine wpAnyH_take (i := 6) (v := ?_) rfl (by kernel_rfl) (by kernel_rfl) (by kernel_rfl) (fun _ _ _ h => h) (Or.inl ⟨by rfl, fun V hV => ?_⟩) (by assumption) ?_
          rotate_left
          · go_simp
            try with_reducible rfl
          try simp only [Act.put, List.getElem_toArray, List.getElem_cons_zero, List.getElem_cons_succ, List.setIfInBounds_toArray, List.set_cons_zero, List.set_cons_succ]
          refine wpAnyH_take (i := 7) (v := ?_) rfl (by kernel_rfl) (by kernel_rfl) (by kernel_rfl) (fun _ _ _ h => h) (Or.inl ⟨by rfl, fun V hV => ?_⟩) (by assumption) ?_
          rotate_left
          · have g4 := (HSV.out V hV).c4; go_simp
            try with_reducible rfl
          try simp only [Act.put, List.getElem_toArray, List.getElem_cons_zero, List.getElem_cons_succ, List.setIfInBounds_toArray, List.set_cons_zero, List.set_cons_succ]
          refine wpAnyH_take (i := 8) (v := ?_) rfl (by kernel_rfl) (by kernel_rfl) (by kernel_rfl) (fun _ _ _ h => h) (Or.inl ⟨by rfl, fun V hV => ?_⟩) (by assumption) ?_
          rotate_left
          · go_simp
            try with_reducible rfl
          try simp only [Act.put, List.getElem_toArray, List.getElem_cons_zero, List.getElem_cons_succ, List.setIfInBounds_toArray, List.set_cons_zero, List.set_cons_succ]
          refine wpAnyH_take (i := 9) (v := ?_) rfl (by kernel_rfl) (by kernel_rfl) (by kernel_rfl) (fun _ _ _ h => h) (Or.inl ⟨by rfl, fun V hV => ?_⟩) (by assumption) ?_
          rotate_left
          · have e1 : IntKind.i64.wrap ((k : Int) + 1) = ((k + 1 : Nat) : Int) := (by rw [IntWalk.i64_in _ (by have := HN.out; omega)]; omega); go_simp
            try with_reducible rfl
          try simp only [Act.put, List.getElem_toArray, List.getElem_cons_zero, List.getElem_cons_succ, List.setIfInBounds_toArray, List.set_cons_zero, List.set_cons_succ]
          refine wpAnyH_take (i := 10) (v := ?_) rfl (by kernel_rfl) (by kernel_rfl) (by kernel_rfl) (fun _ _ _ h => h) (Or.inl ⟨by rfl, fun V hV => ?_⟩) (by assumption) ?_
          rotate_left
          · have e1 : k + 1 ≤ m := hkm; have e2 : ((k + 1 : Nat) : Int) ≤ m := (by omega); have e3 : (m : Int) ≤ d := (by omega); have e4 : (0 : Int) ≤ (k : Int) + 1 := (by omega); have e5 : (k : Int) + 1 ≤ m := (by omega); have e6 := HQE.out; go_simp
            try with_reducible rfl
          try simp only [Act.put, List.getElem_toArray, List.getElem_cons_zero, List.getElem_cons_succ, List.setIfInBounds_toArray, List.set_cons_zero, List.set_cons_succ]
          refine wpAnyH_ready (rs := [0]) (by kernel_rfl) (by simp) ?_
          refine AllReadyH.cons (o := _) rfl (fun K hK => ?_) AllReadyH.nil
          obtain ⟨Z0, hZ0⟩ : ∃ V, (Y11.drew).alloc (.cells #[] 59) = V := ⟨_, rfl⟩
          have hb : Below (Y11.drew).heap.size Y11.drew Z0 := by rw [← hZ0]; exact (Below.refl _ _).alloc (Nat.le_refl _) _
          have og : OwnRef Z0 M (.slice (some ⟨Y11.heap.size, 0, none⟩) 0 0) [] := by rw [← hZ0]; exact ownRef_nil _ (Nat.le_of_eq HMM.out.symm)
          replace hBN := hBN.trans (hb.mono (Nat.le_of_eq HMM.out.symm)); replace hB := hB.trans (hb.mono (by have h1 := HLT7.out; have h2 := HMM.out; show w.heap.size + 1 ≤ Y11.heap.size; omega))
          have hsz : Hid (M ≤ Z0.heap.size) := by show M ≤ Z0.heap.size; rw [← hZ0, World.size_alloc]; have := HMM.out; show M ≤ Y11.heap.size + 1; omega
          clear hb
          go_simp
          refine hK.out _ _ (hB) (fun hS => ?_)
          clear hK K
          try simp only [List.setIfInBounds_toArray, List.set_cons_zero]
          refine wpAnyH_ready (rs := [5]) (by kernel_rfl) (by simp) ?_
          refine AllReadyH.cons (o := _) rfl (fun K hK => ?_) AllReadyH.nil
          refine step_append_ref (by rfl) (.tmp 54) (.tmp 58) (by rfl) M _ [] (some ⟨bq, oq, none⟩) k d (cs.take k) og (by rfl) (by rfl) ((HCS.out _ hB).sub (Nat.le_of_lt hkm)).1 (by simp) (by have := HN.out; omega) hsz.out ?_
          intro v5 Z5 og5 hb _
          rw [List.nil_append] at og5
          have hsz5 : Hid (M ≤ Z5.heap.size) := Nat.le_trans hsz.out hb.size
          replace hBN := hBN.trans hb; replace hB := hB.trans (hb.mono HLT7.out.2.2.2)
          clear hb og
          refine hK.out _ _ (hB) (fun hS => ?_)
          clear hK K
          try simp only [Act.put, List.getElem_toArray, List.getElem_cons_zero, List.getElem_cons_succ, List.setIfInBounds_toArray, List.set_cons_zero, List.set_cons_succ]
          refine wpAnyH_ready (rs := [11]) (by kernel_rfl) (by simp) ?_
          refine AllReadyH.cons (o := _) rfl (fun K hK => ?_) AllReadyH.nil
          refine step_append_ref (by rfl) (.tmp 59) (.tmp 64) (by rfl) M _ (cs.take k) q10 (m - (k + 1)) (d - (k + 1)) (cs.drop (k + 1)) og5 (by rfl) (by rfl) (HQ10.out _ (HCS.out _ hB)) (by rw [List.length_take]; have := HN.out; omega) (by have := HN.out; omega) hsz5.out ?_
          intro v11 Z11 og11 hb _
          replace hBN := hBN.trans hb; replace hB := hB.trans (hb.mono HLT7.out.2.2.2)
          clear hb og5
          obtain ⟨qg, dg, rfl, hqg⟩ := og11.slice
          obtain ⟨lg, hlg⟩ : ∃ z, (cs.take k ++ cs.drop (k + 1)).length = z := ⟨_, rfl⟩
          have HLG := hid hlg
          rw [hlg] at hqg og11 ⊢
          clear hlg
          refine hK.out _ _ (hB) (fun hS => ?_)
          clear hK K
          try simp only [Act.put, List.getElem_toArray, List.getElem_cons_zero, List.getElem_cons_succ, List.setIfInBounds_toArray, List.set_cons_zero, List.set_cons_succ]
          refine wpAnyH_take (i := 12) (v := ?_) rfl (by kernel_rfl) (by kernel_rfl) (by kernel_rfl) (fun _ _ _ h => h) (Or.inl ⟨by rfl, fun V hV => ?_⟩) (by assumption) ?_
          rotate_left
          · go_simp
            try with_reducible rfl
          try simp only [Act.put, List.getElem_toArray, List.getElem_cons_zero, List.getElem_cons_succ, List.setIfInBounds_toArray, List.set_cons_zero, List.set_cons_succ]
          refine wpAnyH_ready (rs := [13]) (by kernel_rfl) (by simp) ?_
          refine AllReadyH.cons (o := _) rfl (fun K hK => ?_) AllReadyH.nil
          have hbg := HBG6.out.keep hBN HLT7.out.2.1; have hbl := HBL6.out.keep hBN HLT7.out.1; have hba := HBA6.out.keep hBN HLT7.out.2.2.1
          have k4 := (hbg.2 4 _ rfl).1; have f4 := (hbg.2 4 _ rfl).2
          go_simp
          refine hK.out _ _ (hB.setCell (p := ⟨bg, 4, none⟩) (by have := HD3.out; show w.heap.size + 1 ≤ bg; omega) _) (fun hS => ?_)
          clear hK K
          try simp only [List.setIfInBounds_toArray, List.set_cons_zero, List.set_cons_succ]
          refine wpAnyH_done (by kernel_rfl) ?_ _
          clear hS k4 f4
          obtain ⟨w30, hws⟩ : ∃ V, Z11.setCell ⟨bg, 4, none⟩ (.slice qg lg dg) = V := ⟨_, rfl⟩
          replace hbg := hbg.put (j := 4) (.slice qg lg dg); replace hbl := hbl.other (k' := 4) (b' := bg) HD3.out.1 (.slice qg lg dg); replace hba := hba.other (k' := 4) (b' := bg) HD3.out.2.2.1.symm (.slice qg lg dg)
          have og := row_block og11 (fun u hu => Below.heap_setCell _ ⟨bg, 4, none⟩ (.slice qg lg dg) u (by have h1 := (World.ownsRow.lt og11 u hu).1; have h2 := HLT7.out; show u ≠ bg; omega))
          have ho3 : OwnRef (Z11.setCell ⟨bg, 4, none⟩ (.slice qg lg dg)) N (.slice (some ⟨gb3, 0, none⟩) m c3) (lateAt cs k true) := row_block HO36.out (fun u hu => (Below.heap_setCell Z11 ⟨bg, 4, none⟩ (.slice qg lg dg) u (by have h1 := (World.ownsRow.lt HO36.out u hu).1; have h2 := HLT.out; show u ≠ bg; omega)).trans (hBN.block u (by rw [← HMM.out]; exact (World.ownsRow.lt HO36.out u hu).2)))
          have ho7 : OwnRef (Z11.setCell ⟨bg, 4, none⟩ (.slice qg lg dg)) N (.slice (some ⟨gb7, 0, none⟩) m c7) (lateAt cs k false) := row_block HO76.out (fun u hu => (Below.heap_setCell Z11 ⟨bg, 4, none⟩ (.slice qg lg dg) u (by have h1 := (World.ownsRow.lt HO76.out u hu).1; have h2 := HLT.out; show u ≠ bg; omega)).trans (hBN.block u (by rw [← HMM.out]; exact (World.ownsRow.lt HO76.out u hu).2)))
          replace hB := hB.setCell (p := ⟨bg, 4, none⟩) (by have := HD3.out; show w.heap.size + 1 ≤ bg; omega) (.slice qg lg dg)
          rw [hws] at hbg hbl hba og hB ho3 ho7 ⊢
          have hcg : CntsAt w30 qg lg (goneAt cs k) := by
            obtain ⟨p7, c9, e7, h7⟩ := (show OwnRef w30 M (.slice qg lg dg) (cs.take k ++ cs.drop (k + 1)) from og).slice
            rw [HLG.out] at e7 h7
            cases e7
            exact h7
          have hcl : CntsAt w30 (some ⟨gb3, 0, none⟩) m (lateAt cs k true) := by
            obtain ⟨p7, c9, e7, h7⟩ := ho3.slice
            rw [lateAt_len, ← HCW.out.1] at e7 h7
            cases e7
            exact h7
          have hca : CntsAt w30 (some ⟨gb7, 0, none⟩) m (lateAt cs k false) := by
            obtain ⟨p7, c9, e7, h7⟩ := ho7.slice
            rw [lateAt_len, ← HCW.out.1] at e7 h7
            cases e7
            exact h7
          have HS30 := hid (HSV.out _ hB)
          have HX30 := hid ((show BoxIs bl #[.int .i64 r, .int .i64 cc, .slice p n c, .int .i64 sm, .slice (some ⟨gb3, 0, none⟩) m c3] w30 from hbl).sbox HS30.out.ints hcl)
          have HV30 := hid ((show BoxIs bg #[.int .i64 r, .int .i64 cc, .slice p n c, .int .i64 sm, .slice qg lg dg] w30 from hbg).sbox HS30.out.ints hcg)
          have HZ30 := hid ((show BoxIs ba #[.int .i64 r, .int .i64 cc, .slice p n c, .int .i64 sm, .slice (some ⟨gb7, 0, none⟩) m c7] w30 from hba).sbox HS30.out.ints hca)
          have HLG9 : Hid (lg ≤ 9) := by show lg ≤ 9; rw [← HLG.out]; simp only [List.length_append, List.length_take, List.length_drop]; have h1 := HCW.out.1; have h2 := HN.out; omega
          clear hbg hbl hba og hB ho3 ho7 hcg hcl hca hBN hws hqg og11 hY8 hY11
          have hkc : k < cs.length := by have h1 := HCW.out.1; omega
          have HFL := hid (fault_late HF.out k true); have HFG := hid (fault_gone HF.out hkc); have HFA := hid (fault_late HF.out k false)
          have hsame := bnd_same (F := shareL l) HFL.out HFG.out (fun x => late_gone hkc x)
          have HSAME := hid hsame
          clear hsame hkc
          have g0 := HS30.out.c0; have g1 := HS30.out.c1; have g2 := HS30.out.c2; have g3 := HS30.out.c3; have g4 := HS30.out.c4
          by_cases hGl : genP (okP (lateAt cs k true) [] cc sm) l 0 [] = []
          · skip
            obtain ⟨zl, hzl⟩ : ∃ z : Int, z = 0 := ⟨0, rfl⟩
            have hra := bnd_none (F := shareL l) HFL.out hGl
            rw [← hzl] at hra
            have HRA := hid hra
            have HRB := hid (HSAME.out.symm.trans HRA.out)
            have hGa : genP (okP (lateAt cs k false) [] cc sm) l 0 [] = [] := by
              cases e : genP (okP (lateAt cs k false) [] cc sm) l 0 [] with
              | nil => rfl
              | cons u v => have h9 := asked_late (k := k) (cs := cs) (x := u) (by rw [e]; simp); rw [hGl] at h9; cases h9
            have hrc := bnd_none (F := shareL l) HFA.out hGa
            rw [← hzl] at hrc
            have HRC := hid hrc
            clear hGl hGa hra hrc hzl
            have x0 := HX30.out.c0; have x1 := HX30.out.c1; have x2 := HX30.out.c2; have x3 := HX30.out.c3; have x4 := HX30.out.c4
            go_wp2_with fail
            refine (surveyX_any r cc p n c l sm (some ⟨gb3, 0, none⟩) m c3 (lateAt cs k true) _ HX30.out.ints HX30.out.cnts (by have := HN.out; omega) (by have := HN.out; have := HLG9.out; omega)).mono ?_
            rintro e w31 ⟨p1, n1, c1, q1, m1, d1, rfl, hi3, hc3, hb⟩
            have HS31 := hid (HS30.out.step hb)
            have HX31 := hid (HX30.out.below hb)
            have HV31 := hid (HV30.out.below hb)
            have HZ31 := hid (HZ30.out.below hb)
            have HI31 := hid hi3; have HC31 := hid hc3; clear hi3 hc3
            have HL1 : Hid (n1 ≤ 12 ∧ m1 ≤ 9) := ⟨by have := HI31.out.1; have := HX31.out.ints.1; have := HN.out; omega, by have := HC31.out.1; have := HX31.out.cnts.1; have := HN.out; have := HLG9.out; omega⟩
            clear hb x0 x1 x2 x3 x4 g0 g1 g2 g3 g4
            have g0 := HS31.out.c0; have g1 := HS31.out.c1; have g2 := HS31.out.c2; have g3 := HS31.out.c3; have g4 := HS31.out.c4
            go_wp2_with fail
            refine (Bounds_any r cc p1 n1 c1 l sm q1 m1 d1 (lateAt cs k true) _ HI31.out HC31.out (by have := HL1.out; omega) (by have := HL1.out; omega)).mono ?_
            rintro e w32 ⟨rfl, hb⟩
            have HS32 := hid (HS31.out.step hb)
            have HX32 := hid (HX31.out.below hb)
            have HV32 := hid (HV31.out.below hb)
            have HZ32 := hid (HZ31.out.below hb)
            rw [HRA.out]
            clear hb g0 g1 g2 g3 g4
            have g0 := HS32.out.c0; have g1 := HS32.out.c1; have g2 := HS32.out.c2; have g3 := HS32.out.c3; have g4 := HS32.out.c4
            obtain ⟨w33, hw⟩ : ∃ z, w32.alloc (.cells #[.int .i64 zl, .int .i64 zl] 62) = z := ⟨_, rfl⟩
            have hb : Below w32.heap.size w32 w33 := by rw [← hw]; exact (Below.refl _ _).alloc (Nat.le_refl _) _
            have HS33 := hid (HS32.out.step hb)
            have HX33 := hid (HX32.out.below hb)
            have HV33 := hid (HV32.out.below hb)
            have HZ33 := hid (HZ32.out.below hb)
            have HTA33 : Hid (TwoAt w33 w32.heap.size zl zl) := by rw [← hw]; exact ⟨cell_box w32 _ 62 0 _ rfl, cell_box w32 _ 62 1 _ rfl⟩
            clear hb g0 g1 g2 g3 g4
            have g0 := HS33.out.c0; have g1 := HS33.out.c1; have g2 := HS33.out.c2; have g3 := HS33.out.c3; have g4 := HS33.out.c4
            have x0 := HV33.out.c0; have x1 := HV33.out.c1; have x2 := HV33.out.c2; have x3 := HV33.out.c3; have x4 := HV33.out.c4
            go_wp2_with fail
            refine (surveyX_any r cc p n c l sm qg lg dg (goneAt cs k) _ HV33.out.ints HV33.out.cnts (by have := HN.out; omega) (by have := HN.out; have := HLG9.out; omega)).mono ?_
            rintro e w34 ⟨p2, n2, c2, q2, m2, d2, rfl, hi3, hc3, hb⟩
            have HS34 := hid (HS33.out.step hb)
            have HX34 := hid (HX33.out.below hb)
            have HV34 := hid (HV33.out.below hb)
            have HZ34 := hid (HZ33.out.below hb)
            have HTA34 := hid (HTA33.out.below hb)
            have HI34 := hid hi3; have HC34 := hid hc3; clear hi3 hc3
            have HL2 : Hid (n2 ≤ 12 ∧ m2 ≤ 9) := ⟨by have := HI34.out.1; have := HV34.out.ints.1; have := HN.out; omega, by have := HC34.out.1; have := HV34.out.cnts.1; have := HN.out; have := HLG9.out; omega⟩
            clear hb x0 x1 x2 x3 x4 g0 g1 g2 g3 g4
            have g0 := HS34.out.c0; have g1 := HS34.out.c1; have g2 := HS34.out.c2; have g3 := HS34.out.c3; have g4 := HS34.out.c4
            go_wp2_with fail
            refine (Bounds_any r cc p2 n2 c2 l sm q2 m2 d2 (goneAt cs k) _ HI34.out HC34.out (by have := HL2.out; omega) (by have := HL2.out; omega)).mono ?_
            rintro e w35 ⟨rfl, hb⟩
            have HS35 := hid (HS34.out.step hb)
            have HX35 := hid (HX34.out.below hb)
            have HV35 := hid (HV34.out.below hb)
            have HZ35 := hid (HZ34.out.below hb)
            have HTA35 := hid (HTA34.out.below hb)
            rw [HRB.out]
            clear hb g0 g1 g2 g3 g4
            have g0 := HS35.out.c0; have g1 := HS35.out.c1; have g2 := HS35.out.c2; have g3 := HS35.out.c3; have g4 := HS35.out.c4
            obtain ⟨w36, hw⟩ : ∃ z, w35.alloc (.cells #[.int .i64 zl, .int .i64 zl] 62) = z := ⟨_, rfl⟩
            have hb : Below w35.heap.size w35 w36 := by rw [← hw]; exact (Below.refl _ _).alloc (Nat.le_refl _) _
            have HS36 := hid (HS35.out.step hb)
            have HX36 := hid (HX35.out.below hb)
            have HV36 := hid (HV35.out.below hb)
            have HZ36 := hid (HZ35.out.below hb)
            have HTA36 := hid (HTA35.out.below hb)
            have HTB36 : Hid (TwoAt w36 w35.heap.size zl zl) := by rw [← hw]; exact ⟨cell_box w35 _ 62 0 _ rfl, cell_box w35 _ 62 1 _ rfl⟩
            clear hb g0 g1 g2 g3 g4
            have g0 := HS36.out.c0; have g1 := HS36.out.c1; have g2 := HS36.out.c2; have g3 := HS36.out.c3; have g4 := HS36.out.c4
            have x0 := HZ36.out.c0; have x1 := HZ36.out.c1; have x2 := HZ36.out.c2; have x3 := HZ36.out.c3; have x4 := HZ36.out.c4
            go_wp2_with fail
            refine (surveyX_any r cc p n c l sm (some ⟨gb7, 0, none⟩) m c7 (lateAt cs k false) _ HZ36.out.ints HZ36.out.cnts (by have := HN.out; omega) (by have := HN.out; have := HLG9.out; omega)).mono ?_
            rintro e w37 ⟨p3, n3, c3, q3, m3, d3, rfl, hi3, hc3, hb⟩
            have HS37 := hid (HS36.out.step hb)
            have HX37 := hid (HX36.out.below hb)
            have HV37 := hid (HV36.out.below hb)
            have HZ37 := hid (HZ36.out.below hb)
            have HTA37 := hid (HTA36.out.below hb)
            have HTB37 := hid (HTB36.out.below hb)
            have HI37 := hid hi3; have HC37 := hid hc3; clear hi3 hc3
            have HL3 : Hid (n3 ≤ 12 ∧ m3 ≤ 9) := ⟨by have := HI37.out.1; have := HZ37.out.ints.1; have := HN.out; omega, by have := HC37.out.1; have := HZ37.out.cnts.1; have := HN.out; have := HLG9.out; omega⟩
            clear hb x0 x1 x2 x3 x4 g0 g1 g2 g3 g4
            have g0 := HS37.out.c0; have g1 := HS37.out.c1; have g2 := HS37.out.c2; have g3 := HS37.out.c3; have g4 := HS37.out.c4
            go_wp2_with fail
            refine (Bounds_any r cc p3 n3 c3 l sm q3 m3 d3 (lateAt cs k false) _ HI37.out HC37.out (by have := HL3.out; omega) (by have := HL3.out; omega)).mono ?_
            rintro e w38 ⟨rfl, hb⟩
            have HS38 := hid (HS37.out.step hb)
            have HX38 := hid (HX37.out.below hb)
            have HV38 := hid (HV37.out.below hb)
            have HZ38 := hid (HZ37.out.below hb)
            have HTA38 := hid (HTA37.out.below hb)
            have HTB38 := hid (HTB37.out.below hb)
            rw [HRC.out]
            clear hb g0 g1 g2 g3 g4
            have g0 := HS38.out.c0; have g1 := HS38.out.c1; have g2 := HS38.out.c2; have g3 := HS38.out.c3; have g4 := HS38.out.c4
            obtain ⟨w39, hw⟩ : ∃ z, w38.alloc (.cells #[.int .i64 zl, .int .i64 zl] 62) = z := ⟨_, rfl⟩
            have hb : Below w38.heap.size w38 w39 := by rw [← hw]; exact (Below.refl _ _).alloc (Nat.le_refl _) _
            have HS39 := hid (HS38.out.step hb)
            have HX39 := hid (HX38.out.below hb)
            have HV39 := hid (HV38.out.below hb)
            have HZ39 := hid (HZ38.out.below hb)
            have HTA39 := hid (HTA38.out.below hb)
            have HTB39 := hid (HTB38.out.below hb)
            have HTC39 : Hid (TwoAt w39 w38.heap.size zl zl) := by rw [← hw]; exact ⟨cell_box w38 _ 62 0 _ rfl, cell_box w38 _ 62 1 _ rfl⟩
            clear hb g0 g1 g2 g3 g4
            have g0 := HS39.out.c0; have g1 := HS39.out.c1; have g2 := HS39.out.c2; have g3 := HS39.out.c3; have g4 := HS39.out.c4
            have ⟨at0, at1⟩ := HTA39.out
            have ⟨bt0, bt1⟩ := HTB39.out
            have ⟨ct0, ct1⟩ := HTC39.out
            go_wp2_with fail
            refine (awake_any _).mono ?_
            rintro e w99 ⟨rfl, hb⟩
            go_wp2_with fail
            go_ret
            exact ⟨rfl, HS39.out.below.trans (hb.mono HS39.out.below.size)⟩
          · skip
            obtain ⟨alo, ahi, hA1, hA2⟩ := bnd_span (F := shareL l) HFL.out hGl
            have HRA := hid hA1
            have HRB := hid (HSAME.out.symm.trans hA1)
            by_cases hGa : genP (okP (lateAt cs k false) [] cc sm) l 0 [] = []
            · skip
              obtain ⟨zl, hzl⟩ : ∃ z : Int, z = 0 := ⟨0, rfl⟩
              have hrc := bnd_none (F := shareL l) HFA.out hGa
              rw [← hzl] at hrc
              have HRC := hid hrc
              clear hGl hGa hA1 hA2 hrc hzl
              have x0 := HX30.out.c0; have x1 := HX30.out.c1; have x2 := HX30.out.c2; have x3 := HX30.out.c3; have x4 := HX30.out.c4
              go_wp2_with fail
              refine (surveyX_any r cc p n c l sm (some ⟨gb3, 0, none⟩) m c3 (lateAt cs k true) _ HX30.out.ints HX30.out.cnts (by have := HN.out; omega) (by have := HN.out; have := HLG9.out; omega)).mono ?_
              rintro e w31 ⟨p1, n1, c1, q1, m1, d1, rfl, hi3, hc3, hb⟩
              have HS31 := hid (HS30.out.step hb)
              have HX31 := hid (HX30.out.below hb)
              have HV31 := hid (HV30.out.below hb)
              have HZ31 := hid (HZ30.out.below hb)
              have HI31 := hid hi3; have HC31 := hid hc3; clear hi3 hc3
              have HL1 : Hid (n1 ≤ 12 ∧ m1 ≤ 9) := ⟨by have := HI31.out.1; have := HX31.out.ints.1; have := HN.out; omega, by have := HC31.out.1; have := HX31.out.cnts.1; have := HN.out; have := HLG9.out; omega⟩
              clear hb x0 x1 x2 x3 x4 g0 g1 g2 g3 g4
              have g0 := HS31.out.c0; have g1 := HS31.out.c1; have g2 := HS31.out.c2; have g3 := HS31.out.c3; have g4 := HS31.out.c4
              go_wp2_with fail
              refine (Bounds_any r cc p1 n1 c1 l sm q1 m1 d1 (lateAt cs k true) _ HI31.out HC31.out (by have := HL1.out; omega) (by have := HL1.out; omega)).mono ?_
              rintro e w32 ⟨rfl, hb⟩
              have HS32 := hid (HS31.out.step hb)
              have HX32 := hid (HX31.out.below hb)
              have HV32 := hid (HV31.out.below hb)
              have HZ32 := hid (HZ31.out.below hb)
              rw [HRA.out]
              clear hb g0 g1 g2 g3 g4
              have g0 := HS32.out.c0; have g1 := HS32.out.c1; have g2 := HS32.out.c2; have g3 := HS32.out.c3; have g4 := HS32.out.c4
              obtain ⟨w33, hw⟩ : ∃ z, w32.alloc (.cells #[.int .i64 alo, .int .i64 ahi] 62) = z := ⟨_, rfl⟩
              have hb : Below w32.heap.size w32 w33 := by rw [← hw]; exact (Below.refl _ _).alloc (Nat.le_refl _) _
              have HS33 := hid (HS32.out.step hb)
              have HX33 := hid (HX32.out.below hb)
              have HV33 := hid (HV32.out.below hb)
              have HZ33 := hid (HZ32.out.below hb)
              have HTA33 : Hid (TwoAt w33 w32.heap.size alo ahi) := by rw [← hw]; exact ⟨cell_box w32 _ 62 0 _ rfl, cell_box w32 _ 62 1 _ rfl⟩
              clear hb g0 g1 g2 g3 g4
              have g0 := HS33.out.c0; have g1 := HS33.out.c1; have g2 := HS33.out.c2; have g3 := HS33.out.c3; have g4 := HS33.out.c4
              have x0 := HV33.out.c0; have x1 := HV33.out.c1; have x2 := HV33.out.c2; have x3 := HV33.out.c3; have x4 := HV33.out.c4
              go_wp2_with fail
              refine (surveyX_any r cc p n c l sm qg lg dg (goneAt cs k) _ HV33.out.ints HV33.out.cnts (by have := HN.out; omega) (by have := HN.out; have := HLG9.out; omega)).mono ?_
              rintro e w34 ⟨p2, n2, c2, q2, m2, d2, rfl, hi3, hc3, hb⟩
              have HS34 := hid (HS33.out.step hb)
              have HX34 := hid (HX33.out.below hb)
              have HV34 := hid (HV33.out.below hb)
              have HZ34 := hid (HZ33.out.below hb)
              have HTA34 := hid (HTA33.out.below hb)
              have HI34 := hid hi3; have HC34 := hid hc3; clear hi3 hc3
              have HL2 : Hid (n2 ≤ 12 ∧ m2 ≤ 9) := ⟨by have := HI34.out.1; have := HV34.out.ints.1; have := HN.out; omega, by have := HC34.out.1; have := HV34.out.cnts.1; have := HN.out; have := HLG9.out; omega⟩
              clear hb x0 x1 x2 x3 x4 g0 g1 g2 g3 g4
              have g0 := HS34.out.c0; have g1 := HS34.out.c1; have g2 := HS34.out.c2; have g3 := HS34.out.c3; have g4 := HS34.out.c4
              go_wp2_with fail
              refine (Bounds_any r cc p2 n2 c2 l sm q2 m2 d2 (goneAt cs k) _ HI34.out HC34.out (by have := HL2.out; omega) (by have := HL2.out; omega)).mono ?_
              rintro e w35 ⟨rfl, hb⟩
              have HS35 := hid (HS34.out.step hb)
              have HX35 := hid (HX34.out.below hb)
              have HV35 := hid (HV34.out.below hb)
              have HZ35 := hid (HZ34.out.below hb)
              have HTA35 := hid (HTA34.out.below hb)
              rw [HRB.out]
              clear hb g0 g1 g2 g3 g4
              have g0 := HS35.out.c0; have g1 := HS35.out.c1; have g2 := HS35.out.c2; have g3 := HS35.out.c3; have g4 := HS35.out.c4
              obtain ⟨w36, hw⟩ : ∃ z, w35.alloc (.cells #[.int .i64 alo, .int .i64 ahi] 62) = z := ⟨_, rfl⟩
              have hb : Below w35.heap.size w35 w36 := by rw [← hw]; exact (Below.refl _ _).alloc (Nat.le_refl _) _
              have HS36 := hid (HS35.out.step hb)
              have HX36 := hid (HX35.out.below hb)
              have HV36 := hid (HV35.out.below hb)
              have HZ36 := hid (HZ35.out.below hb)
              have HTA36 := hid (HTA35.out.below hb)
              have HTB36 : Hid (TwoAt w36 w35.heap.size alo ahi) := by rw [← hw]; exact ⟨cell_box w35 _ 62 0 _ rfl, cell_box w35 _ 62 1 _ rfl⟩
              clear hb g0 g1 g2 g3 g4
              have g0 := HS36.out.c0; have g1 := HS36.out.c1; have g2 := HS36.out.c2; have g3 := HS36.out.c3; have g4 := HS36.out.c4
              have x0 := HZ36.out.c0; have x1 := HZ36.out.c1; have x2 := HZ36.out.c2; have x3 := HZ36.out.c3; have x4 := HZ36.out.c4
              go_wp2_with fail
              refine (surveyX_any r cc p n c l sm (some ⟨gb7, 0, none⟩) m c7 (lateAt cs k false) _ HZ36.out.ints HZ36.out.cnts (by have := HN.out; omega) (by have := HN.out; have := HLG9.out; omega)).mono ?_
              rintro e w37 ⟨p3, n3, c3, q3, m3, d3, rfl, hi3, hc3, hb⟩
              have HS37 := hid (HS36.out.step hb)
              have HX37 := hid (HX36.out.below hb)
              have HV37 := hid (HV36.out.below hb)
              have HZ37 := hid (HZ36.out.below hb)
              have HTA37 := hid (HTA36.out.below hb)
              have HTB37 := hid (HTB36.out.below hb)
              have HI37 := hid hi3; have HC37 := hid hc3; clear hi3 hc3
              have HL3 : Hid (n3 ≤ 12 ∧ m3 ≤ 9) := ⟨by have := HI37.out.1; have := HZ37.out.ints.1; have := HN.out; omega, by have := HC37.out.1; have := HZ37.out.cnts.1; have := HN.out; have := HLG9.out; omega⟩
              clear hb x0 x1 x2 x3 x4 g0 g1 g2 g3 g4
              have g0 := HS37.out.c0; have g1 := HS37.out.c1; have g2 := HS37.out.c2; have g3 := HS37.out.c3; have g4 := HS37.out.c4
              go_wp2_with fail
              refine (Bounds_any r cc p3 n3 c3 l sm q3 m3 d3 (lateAt cs k false) _ HI37.out HC37.out (by have := HL3.out; omega) (by have := HL3.out; omega)).mono ?_
              rintro e w38 ⟨rfl, hb⟩
              have HS38 := hid (HS37.out.step hb)
              have HX38 := hid (HX37.out.below hb)
              have HV38 := hid (HV37.out.below hb)
              have HZ38 := hid (HZ37.out.below hb)
              have HTA38 := hid (HTA37.out.below hb)
              have HTB38 := hid (HTB37.out.below hb)
              rw [HRC.out]
              clear hb g0 g1 g2 g3 g4
              have g0 := HS38.out.c0; have g1 := HS38.out.c1; have g2 := HS38.out.c2; have g3 := HS38.out.c3; have g4 := HS38.out.c4
              obtain ⟨w39, hw⟩ : ∃ z, w38.alloc (.cells #[.int .i64 zl, .int .i64 zl] 62) = z := ⟨_, rfl⟩
              have hb : Below w38.heap.size w38 w39 := by rw [← hw]; exact (Below.refl _ _).alloc (Nat.le_refl _) _
              have HS39 := hid (HS38.out.step hb)
              have HX39 := hid (HX38.out.below hb)
              have HV39 := hid (HV38.out.below hb)
              have HZ39 := hid (HZ38.out.below hb)
              have HTA39 := hid (HTA38.out.below hb)
              have HTB39 := hid (HTB38.out.below hb)
              have HTC39 : Hid (TwoAt w39 w38.heap.size zl zl) := by rw [← hw]; exact ⟨cell_box w38 _ 62 0 _ rfl, cell_box w38 _ 62 1 _ rfl⟩
              clear hb g0 g1 g2 g3 g4
              have g0 := HS39.out.c0; have g1 := HS39.out.c1; have g2 := HS39.out.c2; have g3 := HS39.out.c3; have g4 := HS39.out.c4
              have ⟨at0, at1⟩ := HTA39.out
              have ⟨bt0, bt1⟩ := HTB39.out
              have ⟨ct0, ct1⟩ := HTC39.out
              go_wp2_with fail
              refine (awake_any _).mono ?_
              rintro e w99 ⟨rfl, hb⟩
              go_wp2_with fail
              go_ret
              exact ⟨rfl, HS39.out.below.trans (hb.mono HS39.out.below.size)⟩
            · skip
              obtain ⟨clo, chi, hC1, hC2⟩ := bnd_span (F := shareL l) HFA.out hGa
              have HRC := hid hC1
              have HAC := hid (Span.sub (fun x hx => asked_late hx) hC2 hA2)
              clear hGl hGa hA1 hA2 hC1 hC2
              have x0 := HX30.out.c0; have x1 := HX30.out.c1; have x2 := HX30.out.c2; have x3 := HX30.out.c3; have x4 := HX30.out.c4
              go_wp2_with fail
              refine (surveyX_any r cc p n c l sm (some ⟨gb3, 0, none⟩) m c3 (lateAt cs k true) _ HX30.out.ints HX30.out.cnts (by have := HN.out; omega) (by have := HN.out; have := HLG9.out; omega)).mono ?_
              rintro e w31 ⟨p1, n1, c1, q1, m1, d1, rfl, hi3, hc3, hb⟩
              have HS31 := hid (HS30.out.step hb)
              have HX31 := hid (HX30.out.below hb)
              have HV31 := hid (HV30.out.below hb)
              have HZ31 := hid (HZ30.out.below hb)
              have HI31 := hid hi3; have HC31 := hid hc3; clear hi3 hc3
              have HL1 : Hid (n1 ≤ 12 ∧ m1 ≤ 9) := ⟨by have := HI31.out.1; have := HX31.out.ints.1; have := HN.out; omega, by have := HC31.out.1; have := HX31.out.cnts.1; have := HN.out; have := HLG9.out; omega⟩
              clear hb x0 x1 x2 x3 x4 g0 g1 g2 g3 g4
              have g0 := HS31.out.c0; have g1 := HS31.out.c1; have g2 := HS31.out.c2; have g3 := HS31.out.c3; have g4 := HS31.out.c4
              go_wp2_with fail
              refine (Bounds_any r cc p1 n1 c1 l sm q1 m1 d1 (lateAt cs k true) _ HI31.out HC31.out (by have := HL1.out; omega) (by have := HL1.out; omega)).mono ?_
              rintro e w32 ⟨rfl, hb⟩
              have HS32 := hid (HS31.out.step hb)
              have HX32 := hid (HX31.out.below hb)
              have HV32 := hid (HV31.out.below hb)
              have HZ32 := hid (HZ31.out.below hb)
              rw [HRA.out]
              clear hb g0 g1 g2 g3 g4
              have g0 := HS32.out.c0; have g1 := HS32.out.c1; have g2 := HS32.out.c2; have g3 := HS32.out.c3; have g4 := HS32.out.c4
              obtain ⟨w33, hw⟩ : ∃ z, w32.alloc (.cells #[.int .i64 alo, .int .i64 ahi] 62) = z := ⟨_, rfl⟩
              have hb : Below w32.heap.size w32 w33 := by rw [← hw]; exact (Below.refl _ _).alloc (Nat.le_refl _) _
              have HS33 := hid (HS32.out.step hb)
              have HX33 := hid (HX32.out.below hb)
              have HV33 := hid (HV32.out.below hb)
              have HZ33 := hid (HZ32.out.below hb)
              have HTA33 : Hid (TwoAt w33 w32.heap.size alo ahi) := by rw [← hw]; exact ⟨cell_box w32 _ 62 0 _ rfl, cell_box w32 _ 62 1 _ rfl⟩
              clear hb g0 g1 g2 g3 g4
              have g0 := HS33.out.c0; have g1 := HS33.out.c1; have g2 := HS33.out.c2; have g3 := HS33.out.c3; have g4 := HS33.out.c4
              have x0 := HV33.out.c0; have x1 := HV33.out.c1; have x2 := HV33.out.c2; have x3 := HV33.out.c3; have x4 := HV33.out.c4
              go_wp2_with fail
              refine (surveyX_any r cc p n c l sm qg lg dg (goneAt cs k) _ HV33.out.ints HV33.out.cnts (by have := HN.out; omega) (by have := HN.out; have := HLG9.out; omega)).mono ?_
              rintro e w34 ⟨p2, n2, c2, q2, m2, d2, rfl, hi3, hc3, hb⟩
              have HS34 := hid (HS33.out.step hb)
              have HX34 := hid (HX33.out.below hb)
              have HV34 := hid (HV33.out.below hb)
              have HZ34 := hid (HZ33.out.below hb)
              have HTA34 := hid (HTA33.out.below hb)
              have HI34 := hid hi3; have HC34 := hid hc3; clear hi3 hc3
              have HL2 : Hid (n2 ≤ 12 ∧ m2 ≤ 9) := ⟨by have := HI34.out.1; have := HV34.out.ints.1; have := HN.out; omega, by have := HC34.out.1; have := HV34.out.cnts.1; have := HN.out; have := HLG9.out; omega⟩
              clear hb x0 x1 x2 x3 x4 g0 g1 g2 g3 g4
              have g0 := HS34.out.c0; have g1 := HS34.out.c1; have g2 := HS34.out.c2; have g3 := HS34.out.c3; have g4 := HS34.out.c4
              go_wp2_with fail
              refine (Bounds_any r cc p2 n2 c2 l sm q2 m2 d2 (goneAt cs k) _ HI34.out HC34.out (by have := HL2.out; omega) (by have := HL2.out; omega)).mono ?_
              rintro e w35 ⟨rfl, hb⟩
              have HS35 := hid (HS34.out.step hb)
              have HX35 := hid (HX34.out.below hb)
              have HV35 := hid (HV34.out.below hb)
              have HZ35 := hid (HZ34.out.below hb)
              have HTA35 := hid (HTA34.out.below hb)
              rw [HRB.out]
              clear hb g0 g1 g2 g3 g4
              have g0 := HS35.out.c0; have g1 := HS35.out.c1; have g2 := HS35.out.c2; have g3 := HS35.out.c3; have g4 := HS35.out.c4
              obtain ⟨w36, hw⟩ : ∃ z, w35.alloc (.cells #[.int .i64 alo, .int .i64 ahi] 62) = z := ⟨_, rfl⟩
              have hb : Below w35.heap.size w35 w36 := by rw [← hw]; exact (Below.refl _ _).alloc (Nat.le_refl _) _
              have HS36 := hid (HS35.out.step hb)
              have HX36 := hid (HX35.out.below hb)
              have HV36 := hid (HV35.out.below hb)
              have HZ36 := hid (HZ35.out.below hb)
              have HTA36 := hid (HTA35.out.below hb)
              have HTB36 : Hid (TwoAt w36 w35.heap.size alo ahi) := by rw [← hw]; exact ⟨cell_box w35 _ 62 0 _ rfl, cell_box w35 _ 62 1 _ rfl⟩
              clear hb g0 g1 g2 g3 g4
              have g0 := HS36.out.c0; have g1 := HS36.out.c1; have g2 := HS36.out.c2; have g3 := HS36.out.c3; have g4 := HS36.out.c4
              have x0 := HZ36.out.c0; have x1 := HZ36.out.c1; have x2 := HZ36.out.c2; have x3 := HZ36.out.c3; have x4 := HZ36.out.c4
              go_wp2_with fail
              refine (surveyX_any r cc p n c l sm (some ⟨gb7, 0, none⟩) m c7 (lateAt cs k false) _ HZ36.out.ints HZ36.out.cnts (by have := HN.out; omega) (by have := HN.out; have := HLG9.out; omega)).mono ?_
              rintro e w37 ⟨p3, n3, c3, q3, m3, d3, rfl, hi3, hc3, hb⟩
              have HS37 := hid (HS36.out.step hb)
              have HX37 := hid (HX36.out.below hb)
              have HV37 := hid (HV36.out.below hb)
              have HZ37 := hid (HZ36.out.below hb)
              have HTA37 := hid (HTA36.out.below hb)
              have HTB37 := hid (HTB36.out.below hb)
              have HI37 := hid hi3; have HC37 := hid hc3; clear hi3 hc3
              have HL3 : Hid (n3 ≤ 12 ∧ m3 ≤ 9) := ⟨by have := HI37.out.1; have := HZ37.out.ints.1; have := HN.out; omega, by have := HC37.out.1; have := HZ37.out.cnts.1; have := HN.out; have := HLG9.out; omega⟩
              clear hb x0 x1 x2 x3 x4 g0 g1 g2 g3 g4
              have g0 := HS37.out.c0; have g1 := HS37.out.c1; have g2 := HS37.out.c2; have g3 := HS37.out.c3; have g4 := HS37.out.c4
              go_wp2_with fail
              refine (Bounds_any r cc p3 n3 c3 l sm q3 m3 d3 (lateAt cs k false) _ HI37.out HC37.out (by have := HL3.out; omega) (by have := HL3.out; omega)).mono ?_
              rintro e w38 ⟨rfl, hb⟩
              have HS38 := hid (HS37.out.step hb)
              have HX38 := hid (HX37.out.below hb)
              have HV38 := hid (HV37.out.below hb)
              have HZ38 := hid (HZ37.out.below hb)
              have HTA38 := hid (HTA37.out.below hb)
              have HTB38 := hid (HTB37.out.below hb)
              rw [HRC.out]
              clear hb g0 g1 g2 g3 g4
              have g0 := HS38.out.c0; have g1 := HS38.out.c1; have g2 := HS38.out.c2; have g3 := HS38.out.c3; have g4 := HS38.out.c4
              obtain ⟨w39, hw⟩ : ∃ z, w38.alloc (.cells #[.int .i64 clo, .int .i64 chi] 62) = z := ⟨_, rfl⟩
              have hb : Below w38.heap.size w38 w39 := by rw [← hw]; exact (Below.refl _ _).alloc (Nat.le_refl _) _
              have HS39 := hid (HS38.out.step hb)
              have HX39 := hid (HX38.out.below hb)
              have HV39 := hid (HV38.out.below hb)
              have HZ39 := hid (HZ38.out.below hb)
              have HTA39 := hid (HTA38.out.below hb)
              have HTB39 := hid (HTB38.out.below hb)
              have HTC39 : Hid (TwoAt w39 w38.heap.size clo chi) := by rw [← hw]; exact ⟨cell_box w38 _ 62 0 _ rfl, cell_box w38 _ 62 1 _ rfl⟩
              clear hb g0 g1 g2 g3 g4
              have g0 := HS39.out.c0; have g1 := HS39.out.c1; have g2 := HS39.out.c2; have g3 := HS39.out.c3; have g4 := HS39.out.c4
              have ⟨at0, at1⟩ := HTA39.out
              have ⟨bt0, bt1⟩ := HTB39.out
              have ⟨ct0, ct1⟩ := HTC39.out
              have i1 : alo ≤ clo := HAC.out.1
              have i2 : chi ≤ ahi := HAC.out.2
              go_wp2_with fail
              refine (awake_any _).mono ?_
              rintro e w99 ⟨rfl, hb⟩
              go_wp2_with fail
              go_ret
              exact ⟨rfl, HS39.out.below.trans (hb.mono HS39.out.below.size)⟩
end Go.Proofs.Ytlicijnaacdceaa
