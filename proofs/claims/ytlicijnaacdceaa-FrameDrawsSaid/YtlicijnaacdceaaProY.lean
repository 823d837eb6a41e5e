/- The search through lists, for what Leave asks. -/
import Derived.Test.YtlicijnaacdceaaProX
namespace Go.Proofs.Ytlicijnaacdceaa
open Go.RowKit

set_option maxRecDepth 40000 in
set_option maxHeartbeats 8000000 in
theorem lists1_81 (Inv : World → Prop) (f : List Int → Bool) (b bi bb ba cf : Nat) (e1 e2 : Nat) (hInv : ∀ W1 W2, Inv W1 → Near (fun k => k = cf) W1 W2 → Inv W2) (hbi : bi ≠ cf) (hbb : bb ≠ cf) (hba : ba ≠ cf) (hb : b ≤ 100)
    (hcb : ∀ (X : List Int) (p : Option Addr) (k c : Nat) (W : World), Inv W → Free W cf → PreAt cf W p k X → k ≤ 100 → X.length ≤ b → IncrG b 0 X → Calls Try.prog 81 #[.slice p k c, .pointer (some ⟨e1, 0, none⟩), .pointer (some ⟨e2, 0, none⟩)] W (LPost cf W (if f X = true then some X else none))) :
    ∀ (m s : Nat) (pre : List Int) (p : Option Addr) (k c : Nat) (W : World), Inv W → Free W cf → LCell W 81 #[.pointer (some ⟨e1, 0, none⟩), .pointer (some ⟨e2, 0, none⟩)] b bi bb ba → PreAt cf W p k pre → s ≤ b → pre.length ≤ s → pre.length + m ≤ 100 → (∀ y, IncrG b s y → IncrG b 0 (pre ++ y)) →
      Calls Try.prog 99 #[.slice p k c, .int .i64 s, .int .i64 m, .pointer (some ⟨bi, 0, none⟩), .pointer (some ⟨bb, 0, none⟩), .pointer (some ⟨ba, 0, none⟩)] W (LPost cf W (((combos b m s).map fun y => pre ++ y).find? f)) := by
  intro m
  induction m with
  | zero =>
    intro s pre p k c W hI hF hL hP hs hps hpm hinc
    have HI := hid hI
    have HF := hid hF
    have HP := hid hP
    have HINC := hid hinc
    have ci := hL.ci
    have hres : ((combos b 0 s).map fun y => pre ++ y).find? f = if f pre = true then some pre else none := by
      simp only [combos, List.map_cons, List.map_nil, List.append_nil, List.find?_cons, List.find?_nil]
      cases f pre <;> rfl
    obtain ⟨res, hr2⟩ : ∃ res, (if f pre = true then some pre else none) = res := ⟨_, rfl⟩
    rw [hres, hr2]
    have HC1 : Hid (Calls Try.prog 81 #[.slice p k c, .pointer (some ⟨e1, 0, none⟩), .pointer (some ⟨e2, 0, none⟩)] W (LPost cf W res)) := by
      rw [← hr2]
      exact hcb pre p k c W hI hF hP (by have := hP.1.1; omega) (by omega) (by have := hinc [] trivial; simpa using this)
    clear hI hF hP hcb hinc hL hres hr2
    go_enter Try.func99, Try.ntmps99
    go_wp2_with fail
    refine HC1.out.mono ?_
    rintro e W1 ⟨rfl, h1, h2, h3⟩
    go_wp2_with fail
    go_ret
    exact ⟨rfl, h1, h2, h3⟩
  | succ m ih =>
    intro s pre p k c W hI hF hL hP hs hps hpm hinc
    have HI := hid hI
    have HF := hid hF
    have HL := hid hL
    have HP := hid hP
    have HINC := hid hinc
    have HIH := hid ih
    have HINV := hid hInv
    have hk100 : k ≤ 100 := by have := hP.1.1; omega
    have hm1 : (((m : Int) + 1) == 0) = false := by simp; omega
    rw [combos_pre]
    obtain ⟨tot, htot⟩ : ∃ tot, ((List.range' s (b - m - s)).flatMap fun j => (combos b m (j + 1)).map fun y => pre ++ ((j : Int) :: y)).find? f = tot := ⟨_, rfl⟩
    rw [htot]
    have HTOT := hid htot
    rw [show ((m + 1 : Nat) : Int) = (m : Int) + 1 by push_cast; rfl]
    clear hI hF hL hP hinc ih hcb hInv htot
    go_enter Try.func99, Try.ntmps99
    go_wp2_with fail
    go_loopw [10] (fun x wr => ∃ i : Nat, s ≤ i ∧ (i ≤ b ∨ i = s) ∧ x = .int .i64 i ∧ Near (fun k => k = cf) W wr ∧ Free wr cf ∧ ((List.range' i (b - m - i)).flatMap fun j => (combos b m (j + 1)).map fun y => pre ++ ((j : Int) :: y)).find? f = tot) (fun x _ => b + 1 - (intOf x).toNat)
    case atStart => exact ⟨s, Nat.le_refl _, .inr rfl, rfl, Near.refl _ _, HF.out, HTOT.out⟩
    case round =>
      obtain ⟨i, hi1, hi2, rfl, hnr, hfr, hr⟩ := hrel
      have HNR := hid hnr
      have HFR := hid hfr
      have HR := hid hr
      have HLR := HL.out.near hbi hbb hba hnr
      have hcb0 := HLR.cb
      have HLR := hid HLR
      have HPR := hid (HP.out.near hnr)
      clear hnr hfr hr
      by_cases hlt : i + m < b
      · have hle : (i : Int) ≤ (b : Int) - ((m : Int) + 1) := by omega
        obtain ⟨res, hres⟩ : ∃ res, ((combos b m (i + 1)).map fun y => (pre ++ [(i : Int)]) ++ y).find? f = res := ⟨_, rfl⟩
        have HGO := hid (combos_go b m i pre f hlt)
        have HIHR : Hid (∀ (V : World) (g5 cap5 : Nat), Near (fun k => k = cf) wr V → OwnInts V wr.heap.size (.slice (some ⟨g5, 0, none⟩) (pre.length + 1) cap5) (pre ++ [(i : Int)]) → wr.heap.size ≤ g5 → Free V cf → Calls Try.prog 99 #[.slice (some ⟨g5, 0, none⟩) (pre.length + 1) cap5, .int .i64 ((i : Int) + 1), .int .i64 (m : Int), .pointer (some ⟨bi, 0, none⟩), .pointer (some ⟨bb, 0, none⟩), .pointer (some ⟨ba, 0, none⟩)] V (LPost cf V res)) := by
          intro V g5 cap5 hV hown hg5 hF5
          have hlen : (pre ++ [(i : Int)]).length = pre.length + 1 := by simp
          have hq : PreAt cf V (some ⟨g5, 0, none⟩) (pre.length + 1) (pre ++ [(i : Int)]) := by
            obtain ⟨p', c', e, hh⟩ := hown.slice
            rw [hlen] at e hh
            cases e
            refine ⟨hh, fun a ha => ?_⟩
            cases ha
            obtain ⟨v, h1, _⟩ := HFR.out
            have := World.block_lt_of_cell? _ _ h1
            show g5 ≠ cf
            have h2 : cf < wr.heap.size := this
            omega
          have h := HIH.out (i + 1) (pre ++ [(i : Int)]) (some ⟨g5, 0, none⟩) (pre.length + 1) cap5 V (HINV.out _ _ HI.out (HNR.out.trans hV)) hF5 (HLR.out.near hbi hbb hba hV) hq (by omega) (by rw [hlen]; omega) (by rw [hlen]; omega)
            (fun y hy => by
              have := HINC.out ((i : Int) :: y) ⟨by omega, by omega, by simpa using hy⟩
              simpa [List.append_assoc] using this)
          rw [hres] at h
          rw [show ((i + 1 : Nat) : Int) = (i : Int) + 1 by push_cast; rfl] at h
          exact h
        have HRES := hid hres
        clear hres hcb0
        have HV : Hid (∀ V, Near (fun k => k = cf) wr V → V.cell? ⟨ba, 0, none⟩ = some (.func (.func 99) #[] #[.pointer (some ⟨bi, 0, none⟩), .pointer (some ⟨bb, 0, none⟩), .pointer (some ⟨ba, 0, none⟩)])) := fun V hV => near_cell HLR.out.ca hV hba
        have hcb0 := HLR.out.cb
        have hw1 : IntKind.i64.wrap ((i : Int) + 1) = (i : Int) + 1 := IntWalk.i64_in _ (by omega)
        have hw2 : IntKind.i64.wrap (m : Int) = (m : Int) := IntWalk.i64_in _ (by omega)
        go_wp2_with fail
        refine wp_region_held_drew (S := fun V => Near (fun k => k = cf) wr V) (by kernel_rfl) (Near.refl _ _).drew (fun hS => ?_)
        have hBl : Below wr.heap.size wr wr.drew := (Below.refl _ _).drew
        simp only [List.size_toArray, List.length_cons, List.length_nil, Nat.reduceAdd, Array.replicate_succ, Array.replicate_zero, List.push_toArray, List.nil_append, List.cons_append]
        refine wpAnyH_take (i := 0) (v := ?_) rfl (by kernel_rfl) (by kernel_rfl) (by kernel_rfl) (fun _ _ _ h => h) (Or.inl ⟨by rfl, fun V hV => ?_⟩) (by assumption) ?_
        rotate_left
        · have v0 := HV.out V hV; go_simp
          try with_reducible rfl
        try simp only [Act.put, List.getElem_toArray, List.getElem_cons_zero, List.setIfInBounds_toArray, List.set_cons_zero, List.set_cons_succ]
        refine wpAnyH_take (i := 1) (v := ?_) rfl (by kernel_rfl) (by kernel_rfl) (by kernel_rfl) (fun _ _ _ h => h) (Or.inl ⟨by rfl, fun V hV => ?_⟩) (by assumption) ?_
        rotate_left
        · go_simp
          try with_reducible rfl
        try simp only [Act.put, List.getElem_toArray, List.getElem_cons_zero, List.getElem_cons_succ, List.setIfInBounds_toArray, List.set_cons_zero, List.set_cons_succ]
        refine wpAnyH_take (i := 3) (v := ?_) rfl (by kernel_rfl) (by kernel_rfl) (by kernel_rfl) (fun _ _ _ h => h) (Or.inl ⟨by rfl, fun V hV => ?_⟩) (by assumption) ?_
        rotate_left
        · go_simp
          try with_reducible rfl
        try simp only [Act.put, List.getElem_toArray, List.getElem_cons_zero, List.getElem_cons_succ, List.setIfInBounds_toArray, List.set_cons_zero, List.set_cons_succ]
        refine wpAnyH_take (i := 6) (v := ?_) rfl (by kernel_rfl) (by kernel_rfl) (by kernel_rfl) (fun _ _ _ h => h) (Or.inl ⟨by rfl, fun V hV => ?_⟩) (by assumption) ?_
        rotate_left
        · go_simp
          try with_reducible rfl
        try simp only [Act.put, List.getElem_toArray, List.getElem_cons_zero, List.getElem_cons_succ, List.setIfInBounds_toArray, List.set_cons_zero, List.set_cons_succ]
        refine wpAnyH_take (i := 7) (v := ?_) rfl (by kernel_rfl) (by kernel_rfl) (by kernel_rfl) (fun _ _ _ h => h) (Or.inl ⟨by rfl, fun V hV => ?_⟩) (by assumption) ?_
        rotate_left
        · go_simp
          try with_reducible rfl
        try simp only [Act.put, List.getElem_toArray, List.getElem_cons_zero, List.getElem_cons_succ, List.setIfInBounds_toArray, List.set_cons_zero, List.set_cons_succ]
        refine wpAnyH_take (i := 8) (v := ?_) rfl (by kernel_rfl) (by kernel_rfl) (by kernel_rfl) (fun _ _ _ h => h) (Or.inl ⟨by rfl, fun V hV => ?_⟩) (by assumption) ?_
        rotate_left
        · go_simp
          try with_reducible rfl
        try simp only [Act.put, List.getElem_toArray, List.getElem_cons_zero, List.getElem_cons_succ, List.setIfInBounds_toArray, List.set_cons_zero, List.set_cons_succ]
        refine wpAnyH_take (i := 9) (v := ?_) rfl (by kernel_rfl) (by kernel_rfl) (by kernel_rfl) (fun _ _ _ h => h) (Or.inl ⟨by rfl, fun V hV => ?_⟩) (by assumption) ?_
        rotate_left
        · go_simp
          try with_reducible rfl
        try simp only [Act.put, List.getElem_toArray, List.getElem_cons_zero, List.getElem_cons_succ, List.setIfInBounds_toArray, List.set_cons_zero, List.set_cons_succ]
        refine wpAnyH_ready (rs := [2, 4]) (by kernel_rfl) (by simp) ?_
        refine AllReadyH.cons (o := _) rfl (fun K hK => ?_) ?_
        · skip
          go_simp
          refine (clone_any p k c pre _ (HPR.out.near hS).1 (by omega)).mono ?_
          rintro e V2 ⟨v2, rfl, ho2, hb2⟩
          have hs2 : wr.heap.size ≤ wr.heap.size := hS.size
          have hbv : wr.heap.size ≤ V2.heap.size := Nat.le_trans hs2 hb2.size
          have hBl := hBl.trans (hb2.mono hBl.size)
          refine hK.out _ _ (hS.trans (Near.of_below hb2 (fun k h1 h2 => by omega))) (fun hS => ?_)
          clear hK K
          try simp only [List.setIfInBounds_toArray, List.set_cons_zero, List.set_cons_succ]
          refine wpAnyH_ready (rs := [4]) (by kernel_rfl) (by simp) ?_
          refine AllReadyH.cons (o := _) rfl (fun K hK => ?_) AllReadyH.nil
          obtain ⟨V4, hV4⟩ : ∃ V4, V2.alloc (.cells #[.int .i64 (i : Int)] 3) = V4 := ⟨_, rfl⟩
          have hx4 : V4.cell? ⟨V2.heap.size, 0, none⟩ = some (.int .i64 (i : Int)) := by rw [← hV4]; exact cell_box V2 _ 3 0 _ rfl
          have hb4 : Below V2.heap.size V2 V4 := by rw [← hV4]; exact (Below.refl _ _).alloc (Nat.le_refl _) _
          have hBl := hBl.trans (hb4.mono hBl.size)
          go_simp
          refine hK.out _ _ (hS.trans (Near.of_below hb4 (fun k h1 h2 => by omega))) (fun hS => ?_)
          clear hK K
          try simp only [List.setIfInBounds_toArray, List.set_cons_zero, List.set_cons_succ]
          refine wpAnyH_ready (rs := [5]) (by kernel_rfl) (by simp) ?_
          refine AllReadyH.cons (o := _) rfl (fun K hK => ?_) AllReadyH.nil
          refine step_append_int (by rfl) (.tmp 26) (.tmp 28) (by rfl) wr.heap.size v2 pre (i : Int) V2.heap.size ((ho2.mono hs2).below hb4) rfl rfl hx4 (by have := HPR.out.1.1; omega) hS.size ?_
          intro g5 cap5 V5 h5 hb5 hg5
          have hBl := hBl.trans hb5
          refine hK.out _ _ (hS.trans' (T := fun k => wr.heap.size ≤ k) (Near.of_below hb5 (fun k h1 h2 => h2)) (fun j h1 h2 => by omega)) (fun hS => ?_)
          clear hK K
          try simp only [Act.put, List.getElem_toArray, List.getElem_cons_zero, List.getElem_cons_succ, List.setIfInBounds_toArray, List.set_cons_zero, List.set_cons_succ]
          refine wpAnyH_ready (rs := [10]) (by kernel_rfl) (by simp) ?_
          refine AllReadyH.cons (o := _) rfl (fun K hK => ?_) AllReadyH.nil
          go_simp
          refine (HIHR.out V5 g5 cap5 hS h5 hg5 (HFR.out.below hBl)).mono ?_
          rintro e V10 hpost
          obtain ⟨rfl, hn10, hf10, hx10⟩ := hpost
          refine hK.out _ _ (hS.trans hn10) (fun hS => ?_)
          clear hK K
          try simp only [List.setIfInBounds_toArray, List.set_cons_zero, List.set_cons_succ]
          refine wpAnyH_done (by kernel_rfl) ?_ _
          have HS10 := hid (HNR.out.trans hS)
          have HF10 := hid hf10
          have HX10 := hid hx10
          clear hS hBl hn10 hf10 hx10
          cases res with
          | none =>
            have HNX : Hid (((List.range' (i + 1) (b - m - (i + 1))).flatMap fun j => (combos b m (j + 1)).map fun y => pre ++ ((j : Int) :: y)).find? f = tot) := by
              show _ = _
              have h1 := HGO.out
              rw [HRES.out, HR.out] at h1
              simpa using h1.symm
            go_wp2
            go_roundw
            case rel => exact ⟨i + 1, by omega, .inl (by omega), by go_num, HS10.out, HF10.out, HNX.out⟩
            case measure => simp [intOf]; omega
          | some X =>
            have HTX : Hid (tot = some X) := by
              show _ = _
              have h1 := HGO.out
              rw [HRES.out, HR.out] at h1
              simpa using h1
            go_wp2
            go_ret
            exact ⟨by rw [HTX.out]; rfl, HS10.out, HF10.out, fun Y hY => HX10.out Y (by rw [← HTX.out]; exact hY)⟩
        refine AllReadyH.cons (o := _) rfl (fun K hK => ?_) AllReadyH.nil
        obtain ⟨V4, hV4⟩ : ∃ V4, (wr.alloc (.cells #[.int .i64 (i : Int)] 3)).drew = V4 := ⟨_, rfl⟩
        have hx4 : V4.cell? ⟨wr.heap.size, 0, none⟩ = some (.int .i64 (i : Int)) := by rw [← hV4]; exact cell_box wr _ 3 0 _ rfl
        have hb4 : Below wr.heap.size wr V4 := by rw [← hV4]; exact ((Below.refl _ _).alloc (Nat.le_refl _) _).drew
        have hBl : Below wr.heap.size wr V4 := hb4
        go_simp
        refine hK.out _ _ (Near.of_below hb4 (fun k h1 h2 => by omega)) (fun hS => ?_)
        clear hK K
        try simp only [List.setIfInBounds_toArray, List.set_cons_zero, List.set_cons_succ]
        refine wpAnyH_ready (rs := [2]) (by kernel_rfl) (by simp) ?_
        refine AllReadyH.cons (o := _) rfl (fun K hK => ?_) AllReadyH.nil
        go_simp
        refine (clone_any p k c pre _ (HPR.out.near hS).1 (by omega)).mono ?_
        rintro e V2 ⟨v2, rfl, ho2, hb2⟩
        have hs2 : wr.heap.size ≤ V4.heap.size := hS.size
        have hbv : wr.heap.size ≤ V2.heap.size := Nat.le_trans hs2 hb2.size
        have hBl := hBl.trans (hb2.mono hBl.size)
        have hx4 := (hb2.cell (World.block_lt_of_cell? _ _ hx4)).trans hx4
        refine hK.out _ _ (hS.trans (Near.of_below hb2 (fun k h1 h2 => by omega))) (fun hS => ?_)
        clear hK K
        try simp only [List.setIfInBounds_toArray, List.set_cons_zero, List.set_cons_succ]
        refine wpAnyH_ready (rs := [5]) (by kernel_rfl) (by simp) ?_
        refine AllReadyH.cons (o := _) rfl (fun K hK => ?_) AllReadyH.nil
        refine step_append_int (by rfl) (.tmp 26) (.tmp 28) (by rfl) wr.heap.size v2 pre (i : Int) wr.heap.size (ho2.mono hs2) rfl rfl hx4 (by have := HPR.out.1.1; omega) hS.size ?_
        intro g5 cap5 V5 h5 hb5 hg5
        have hBl := hBl.trans hb5
        refine hK.out _ _ (hS.trans' (T := fun k => wr.heap.size ≤ k) (Near.of_below hb5 (fun k h1 h2 => h2)) (fun j h1 h2 => by omega)) (fun hS => ?_)
        clear hK K
        try simp only [Act.put, List.getElem_toArray, List.getElem_cons_zero, List.getElem_cons_succ, List.setIfInBounds_toArray, List.set_cons_zero, List.set_cons_succ]
        refine wpAnyH_ready (rs := [10]) (by kernel_rfl) (by simp) ?_
        refine AllReadyH.cons (o := _) rfl (fun K hK => ?_) AllReadyH.nil
        go_simp
        refine (HIHR.out V5 g5 cap5 hS h5 hg5 (HFR.out.below hBl)).mono ?_
        rintro e V10 hpost
        obtain ⟨rfl, hn10, hf10, hx10⟩ := hpost
        refine hK.out _ _ (hS.trans hn10) (fun hS => ?_)
        clear hK K
        try simp only [List.setIfInBounds_toArray, List.set_cons_zero, List.set_cons_succ]
        refine wpAnyH_done (by kernel_rfl) ?_ _
        have HS10 := hid (HNR.out.trans hS)
        have HF10 := hid hf10
        have HX10 := hid hx10
        clear hS hBl hn10 hf10 hx10
        cases res with
        | none =>
          have HNX : Hid (((List.range' (i + 1) (b - m - (i + 1))).flatMap fun j => (combos b m (j + 1)).map fun y => pre ++ ((j : Int) :: y)).find? f = tot) := by
            show _ = _
            have h1 := HGO.out
            rw [HRES.out, HR.out] at h1
            simpa using h1.symm
          go_wp2
          go_roundw
          case rel => exact ⟨i + 1, by omega, .inl (by omega), by go_num, HS10.out, HF10.out, HNX.out⟩
          case measure => simp [intOf]; omega
        | some X =>
          have HTX : Hid (tot = some X) := by
            show _ = _
            have h1 := HGO.out
            rw [HRES.out, HR.out] at h1
            simpa using h1
          go_wp2
          go_ret
          exact ⟨by rw [HTX.out]; rfl, HS10.out, HF10.out, fun Y hY => HX10.out Y (by rw [← HTX.out]; exact hY)⟩
      · have hgt : (b : Int) - ((m : Int) + 1) < (i : Int) := by omega
        have HTX : Hid (tot = none) := by
          show _ = _
          rw [← HR.out, show b - m - i = 0 by omega]; rfl
        go_wp2
        go_ret
        exact ⟨by rw [HTX.out]; rfl, HNR.out, HFR.out, fun Y hY => by rw [HTX.out] at hY; cases hY⟩


set_option maxRecDepth 40000 in
set_option maxHeartbeats 8000000 in
theorem lists_81 (Inv : World → Prop) (f : List Int → Bool) (b cf : Nat) (e1 e2 : Nat) (hInv : ∀ W1 W2, Inv W1 → Near (fun k => k = cf) W1 W2 → Inv W2) (hb : b ≤ 100)
    (hcb : ∀ (X : List Int) (p : Option Addr) (k c : Nat) (W : World), Inv W → Free W cf → PreAt cf W p k X → k ≤ 100 → X.length ≤ b → IncrG b 0 X → Calls Try.prog 81 #[.slice p k c, .pointer (some ⟨e1, 0, none⟩), .pointer (some ⟨e2, 0, none⟩)] W (LPost cf W (if f X = true then some X else none)))
    (m : Nat) (hm : m ≤ 100) (W : World) (hI : Inv W) (hF : Free W cf) :
    Calls Try.prog 78 #[.int .i64 b, .int .i64 m, .func (.func 81) #[] #[.pointer (some ⟨e1, 0, none⟩), .pointer (some ⟨e2, 0, none⟩)]] W (LPost cf W ((combos b m 0).find? f)) := by
  obtain ⟨W3, hW3⟩ : ∃ W3, ((W.alloc (.cells #[.int .i64 b] 3)).alloc (.cells #[.func (.func 81) #[] #[.pointer (some ⟨e1, 0, none⟩), .pointer (some ⟨e2, 0, none⟩)]] 121)).alloc (.cells #[.func (.func 99) #[] #[.pointer (some ⟨W.heap.size + 1, 0, none⟩), .pointer (some ⟨W.heap.size, 0, none⟩), .pointer (some ⟨W.heap.size + 1 + 1, 0, none⟩)]] 147) = W3 := ⟨_, rfl⟩
  have hcf : cf < W.heap.size := by obtain ⟨v, h1, _⟩ := hF; exact World.block_lt_of_cell? _ _ h1
  have B1 : Boxed1 W #[.int .i64 b] 3 W3 := by rw [← hW3]; exact ((Boxed1.start _ _ _).alloc _).alloc _
  have B2 : Boxed1 (W.alloc (.cells #[.int .i64 b] 3)) #[.func (.func 81) #[] #[.pointer (some ⟨e1, 0, none⟩), .pointer (some ⟨e2, 0, none⟩)]] 121 W3 := by rw [← hW3]; exact (Boxed1.start _ _ _).alloc _
  have B3 : Boxed1 ((W.alloc (.cells #[.int .i64 b] 3)).alloc (.cells #[.func (.func 81) #[] #[.pointer (some ⟨e1, 0, none⟩), .pointer (some ⟨e2, 0, none⟩)]] 121)) #[.func (.func 99) #[] #[.pointer (some ⟨W.heap.size + 1, 0, none⟩), .pointer (some ⟨W.heap.size, 0, none⟩), .pointer (some ⟨W.heap.size + 1 + 1, 0, none⟩)]] 147 W3 := by rw [← hW3]; exact Boxed1.start _ _ _
  have hb3 : Below W.heap.size W W3 := B1.below
  have hn3 : Near (fun k => k = cf) W W3 := Near.of_below hb3 (fun k h1 h2 => by omega)
  have hL : LCell W3 81 #[.pointer (some ⟨e1, 0, none⟩), .pointer (some ⟨e2, 0, none⟩)] b (W.heap.size + 1) W.heap.size (W.heap.size + 1 + 1) := by
    have c1 := B2.cell 0 (v := .func (.func 81) #[] #[.pointer (some ⟨e1, 0, none⟩), .pointer (some ⟨e2, 0, none⟩)]) rfl
    have c2 := B3.cell 0 (v := .func (.func 99) #[] #[.pointer (some ⟨W.heap.size + 1, 0, none⟩), .pointer (some ⟨W.heap.size, 0, none⟩), .pointer (some ⟨W.heap.size + 1 + 1, 0, none⟩)]) rfl
    simp only [World.size_alloc] at c1 c2
    exact ⟨c1, B1.cell 0 rfl, c2⟩
  have h := lists1_81 Inv f b (W.heap.size + 1) W.heap.size (W.heap.size + 1 + 1) cf e1 e2 hInv (by omega) (by omega) (by omega) hb hcb m 0 [] none 0 0 W3 (hInv _ _ hI hn3) (hF.below hb3) hL ⟨IntsAt.nil _, fun a ha => by cases ha⟩ (Nat.zero_le _) (by simp) (by simpa using hm) (fun y hy => by simpa using hy)
  simp only [List.nil_append, List.map_id'] at h
  have H := hid h
  have HN := hid hn3
  have hca := hL.ca
  have hmf : ∀ (fn : Fn) (first cap : Array Value) (w : World), (Instr.makeFunc fn first cap).run Try.prog w = .ok (.func fn first cap) w := fun _ _ _ _ => rfl
  clear h hn3 hL B1 B2 B3 hb3 hcb hInv hI hF
  go_enter Try.func78, Try.ntmps78
  go_wp2_with fail
  refine H.out.mono ?_
  rintro e W4 ⟨rfl, h1, h2, h3⟩
  go_wp2_with fail
  go_ret
  exact ⟨rfl, HN.out.trans h1, h2, h3⟩

end Go.Proofs.Ytlicijnaacdceaa
