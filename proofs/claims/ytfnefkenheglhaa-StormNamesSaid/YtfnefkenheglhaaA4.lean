/- The reference: whether a card is right. No condition. -/
import Derived.Test.YtfnefkenheglhaaA3
namespace Go.Proofs.Ytfnefkenheglhaa
open Go.RowKit

theorem nums_go {x hi : Int} (h : x ≤ hi) : (⟨x, hi⟩ : Rng).nums = x :: (⟨x + 1, hi⟩ : Rng).nums := by
  have e : (⟨x, hi⟩ : Rng).cnt.toNat = (⟨x + 1, hi⟩ : Rng).cnt.toNat + 1 := by unfold Rng.cnt; show (hi - x + 1).toNat = (hi - (x + 1) + 1).toNat + 1; omega
  unfold Rng.nums
  rw [e, List.range_succ_eq_map]
  simp only [List.map_cons, List.map_map]
  congr 1
  · simp
  · refine List.map_congr_left fun i _ => ?_
    show x + ((i + 1 : Nat) : Int) = x + 1 + i
    omega
theorem nums_end {x hi : Int} (h : hi < x) : (⟨x, hi⟩ : Rng).nums = [] := by
  have e : (⟨x, hi⟩ : Rng).cnt.toNat = 0 := by unfold Rng.cnt; show (hi - x + 1).toNat = 0; omega
  unfold Rng.nums
  rw [e]; rfl
theorem Boxed3.drewN {w : World} {cs ds es : Array Value} {T U V : TypeId} {W : World} (h : Boxed3 w cs T ds U es V W) (k : Nat) : Boxed3 w cs T ds U es V (W.drewN k) := below_drewN h k
theorem fits_eq (s : Sto) (t : Tru) (k : Crd) : fitsB s t k = k.x.nums.any fun x => k.y.nums.any fun y => fitsP s t k x y := by
  unfold fitsB placesL
  simp [List.any_flatMap, List.any_map, Function.comp_def]
def rowB (s : Sto) (t : Tru) (k : Crd) (x : Int) : Bool := k.y.nums.any fun y => fitsP s t k x y
theorem fits_row (s : Sto) (t : Tru) (k : Crd) : fitsB s t k = k.x.nums.any (rowB s t k) := fits_eq s t k

/-- A card whose numbers are small. -/
structure SmallK (k : Crd) : Prop where
  x0 : 0 ≤ k.x.lo
  x9 : k.x.hi ≤ 11
  y0 : 0 ≤ k.y.lo
  y9 : k.y.hi ≤ 11
  xx : k.x.lo ≤ k.x.hi
  yy : k.y.lo ≤ k.y.hi
theorem OkS.smallK {s : Sto} (h : OkS s) {k : Crd} (hk : k ∈ s.cards) : SmallK k := by
  have h1 := List.all_eq_true.1 h.cards k hk
  simp only [cardB, rectB, Bool.and_eq_true, Rng.of_iff] at h1
  have := h.w12; have := h.h12
  constructor <;> omega

theorem ref3_of {w W : World} {s : Sto} {p : Option Addr} {n c : Nat} {t : Tru} {k : Crd} {v : Bool} (hv : k.hail = v) (h : Boxed3 w #[.int .i64 s.wide, .int .i64 s.high, .int .i64 s.fall, .int .i64 s.a.lo, .int .i64 s.a.hi, .int .i64 s.b.lo, .int .i64 s.b.hi, .int .i64 s.half.lo, .int .i64 s.half.hi, .int .i64 s.peak.lo, .int .i64 s.peak.hi, .slice p n c] 26 #[.int .i64 t.a, .int .i64 t.b, .int .i64 t.half, .int .i64 t.peak] 92 #[.int .i64 k.x.lo, .int .i64 k.x.hi, .int .i64 k.y.lo, .int .i64 k.y.hi, .bool k.hail, .int .i64 k.size.lo, .int .i64 k.size.hi] 61 W) : W.cell? ⟨w.heap.size, 0, none⟩ = some (.int .i64 s.wide) ∧ W.cell? ⟨w.heap.size, 1, none⟩ = some (.int .i64 s.high) ∧ W.cell? ⟨w.heap.size, 2, none⟩ = some (.int .i64 s.fall) ∧ W.cell? ⟨w.heap.size, 3, none⟩ = some (.int .i64 s.a.lo) ∧ W.cell? ⟨w.heap.size, 4, none⟩ = some (.int .i64 s.a.hi) ∧ W.cell? ⟨w.heap.size, 5, none⟩ = some (.int .i64 s.b.lo) ∧ W.cell? ⟨w.heap.size, 6, none⟩ = some (.int .i64 s.b.hi) ∧ W.cell? ⟨w.heap.size, 7, none⟩ = some (.int .i64 s.half.lo) ∧ W.cell? ⟨w.heap.size, 8, none⟩ = some (.int .i64 s.half.hi) ∧ W.cell? ⟨w.heap.size, 9, none⟩ = some (.int .i64 s.peak.lo) ∧ W.cell? ⟨w.heap.size, 10, none⟩ = some (.int .i64 s.peak.hi) ∧ W.cell? ⟨w.heap.size, 11, none⟩ = some (.slice p n c) ∧ W.cell? ⟨w.heap.size + 1, 0, none⟩ = some (.int .i64 t.a) ∧ W.cell? ⟨w.heap.size + 1, 1, none⟩ = some (.int .i64 t.b) ∧ W.cell? ⟨w.heap.size + 1, 2, none⟩ = some (.int .i64 t.half) ∧ W.cell? ⟨w.heap.size + 1, 3, none⟩ = some (.int .i64 t.peak) ∧ W.cell? ⟨w.heap.size + 2, 0, none⟩ = some (.int .i64 k.x.lo) ∧ W.cell? ⟨w.heap.size + 2, 1, none⟩ = some (.int .i64 k.x.hi) ∧ W.cell? ⟨w.heap.size + 2, 2, none⟩ = some (.int .i64 k.y.lo) ∧ W.cell? ⟨w.heap.size + 2, 3, none⟩ = some (.int .i64 k.y.hi) ∧ W.cell? ⟨w.heap.size + 2, 4, none⟩ = some (.bool v) ∧ W.cell? ⟨w.heap.size + 2, 5, none⟩ = some (.int .i64 k.size.lo) ∧ W.cell? ⟨w.heap.size + 2, 6, none⟩ = some (.int .i64 k.size.hi) ∧ Boxed3 w #[.int .i64 s.wide, .int .i64 s.high, .int .i64 s.fall, .int .i64 s.a.lo, .int .i64 s.a.hi, .int .i64 s.b.lo, .int .i64 s.b.hi, .int .i64 s.half.lo, .int .i64 s.half.hi, .int .i64 s.peak.lo, .int .i64 s.peak.hi, .slice p n c] 26 #[.int .i64 t.a, .int .i64 t.b, .int .i64 t.half, .int .i64 t.peak] 92 #[.int .i64 k.x.lo, .int .i64 k.x.hi, .int .i64 k.y.lo, .int .i64 k.y.hi, .bool k.hail, .int .i64 k.size.lo, .int .i64 k.size.hi] 61 W := by
  have k1 := StoAt.of h.cell1
  have m := TruAt.of h.cell2
  have z := CrdAt.of h.cell3
  have z4 := z.c4
  rw [hv] at z4
  exact ⟨k1.c0, k1.c1, k1.c2, k1.c3, k1.c4, k1.c5, k1.c6, k1.c7, k1.c8, k1.c9, k1.c10, k1.c11, m.c0, m.c1, m.c2, m.c3, z.c0, z.c1, z.c2, z.c3, z4, z.c5, z.c6, h⟩

set_option maxRecDepth 20000 in
set_option maxHeartbeats 1000000 in
theorem right_any (s : Sto) (p : Option Addr) (n c : Nat) (t : Tru) (k : Crd) (w : World) (hs : SmallS s) (ht : SmallT t) (hk : SmallK k) :
    Calls Try.prog 87 #[.agg #[.int .i64 s.wide, .int .i64 s.high, .int .i64 s.fall, .int .i64 s.a.lo, .int .i64 s.a.hi, .int .i64 s.b.lo, .int .i64 s.b.hi, .int .i64 s.half.lo, .int .i64 s.half.hi, .int .i64 s.peak.lo, .int .i64 s.peak.hi, .slice p n c], .agg #[.int .i64 t.a, .int .i64 t.b, .int .i64 t.half, .int .i64 t.peak], .agg #[.int .i64 k.x.lo, .int .i64 k.x.hi, .int .i64 k.y.lo, .int .i64 k.y.hi, .bool k.hail, .int .i64 k.size.lo, .int .i64 k.size.hi]] w fun e w' => e = .returned (.bool (fitsB s t k)) ∧ Below w.heap.size w w' := by
  have HH := hid (fun x y W hx hx' hy hy' => hit_any s p n c t x y W hs ht hx hx' hy hy')
  have HS := hid (fun x y W hx hx' hy hy' => sizeR_any s p n c t x y W hs ht hx hx' hy hy')
  have x0 := hk.x0; have x9 := hk.x9; have y0 := hk.y0; have y9 := hk.y9; have xx := hk.xx; have yy := hk.yy
  clear hs ht hk
  have HF := hid (fits_row s t k)
  have HP := hid (show ∀ x y, fitsP s t k x y = ((k.hail && (hitB s t x y && inB (sizeS s t x y) k.size.lo k.size.hi)) || (!k.hail && !hitB s t x y)) from fun _ _ => rfl)
  obtain ⟨v, hv⟩ : ∃ v, k.hail = v := ⟨_, rfl⟩
  have HV := hid hv
  clear hv
  go_enter Try.func87, Try.ntmps87
  go_wp2_with fail
  go_loopw [7] (fun i wr => ∃ x : Int, k.x.lo ≤ x ∧ x ≤ k.x.hi + 1 ∧ i = .int .i64 x ∧ (⟨x, k.x.hi⟩ : Rng).nums.any (rowB s t k) = fitsB s t k ∧ Boxed3 w #[.int .i64 s.wide, .int .i64 s.high, .int .i64 s.fall, .int .i64 s.a.lo, .int .i64 s.a.hi, .int .i64 s.b.lo, .int .i64 s.b.hi, .int .i64 s.half.lo, .int .i64 s.half.hi, .int .i64 s.peak.lo, .int .i64 s.peak.hi, .slice p n c] 26 #[.int .i64 t.a, .int .i64 t.b, .int .i64 t.half, .int .i64 t.peak] 92 #[.int .i64 k.x.lo, .int .i64 k.x.hi, .int .i64 k.y.lo, .int .i64 k.y.hi, .bool k.hail, .int .i64 k.size.lo, .int .i64 k.size.hi] 61 wr) (fun i _ => (k.x.hi + 1 - intOf i).toNat)
  case atStart => exact ⟨k.x.lo, by omega, by omega, rfl, HF.out.symm, Below.refl _ _⟩
  case round =>
    obtain ⟨x, hx, hx', rfl, hr, HB⟩ := hrel
    have HR := hid hr
    clear hr
    have k1 := (CrdAt.of HB.cell3).c1
    have k2 := (CrdAt.of HB.cell3).c2
    by_cases hle : x ≤ k.x.hi
    · have HG := hid (nums_go hle)
      go_wp2_with fail
      clear k1 k2
      obtain ⟨wo, rfl⟩ : ∃ wo : World, wo = wr := ⟨_, rfl⟩
      go_loopw [8] (fun i wr => ∃ y : Int, k.y.lo ≤ y ∧ y ≤ k.y.hi + 1 ∧ i = .int .i64 y ∧ (⟨y, k.y.hi⟩ : Rng).nums.any (fun y => fitsP s t k x y) = rowB s t k x ∧ Boxed3 w #[.int .i64 s.wide, .int .i64 s.high, .int .i64 s.fall, .int .i64 s.a.lo, .int .i64 s.a.hi, .int .i64 s.b.lo, .int .i64 s.b.hi, .int .i64 s.half.lo, .int .i64 s.half.hi, .int .i64 s.peak.lo, .int .i64 s.peak.hi, .slice p n c] 26 #[.int .i64 t.a, .int .i64 t.b, .int .i64 t.half, .int .i64 t.peak] 92 #[.int .i64 k.x.lo, .int .i64 k.x.hi, .int .i64 k.y.lo, .int .i64 k.y.hi, .bool k.hail, .int .i64 k.size.lo, .int .i64 k.size.hi] 61 wr) (fun i _ => (k.y.hi + 1 - intOf i).toNat)
      case atStart => exact ⟨k.y.lo, by omega, by omega, rfl, rfl, HB⟩
      case round =>
        clear HB
        obtain ⟨y, hy, hy', rfl, hr, HB⟩ := hrel
        have HR2 := hid hr
        clear hr
        have k3 := (CrdAt.of HB.cell3).c3
        have k4 := (CrdAt.of HB.cell3).c4
        rw [HV.out] at k4
        have x0' : 0 ≤ x := by omega
        have x9' : x ≤ 11 := by omega
        have y0' : 0 ≤ y := by omega
        by_cases hly : y ≤ k.y.hi
        · have HG2 := hid (nums_go hly)
          have y9' : y ≤ 11 := by omega
          cases v
          · have HPV : Hid (fitsP s t k x y = !hitB s t x y) := by show _ = _; rw [HP.out, HV.out]; simp
            go_wp2_with fail
            go_quiet (fail)
            have e0 := (StoAt.of (HB).cell1).c0
            have e1 := (StoAt.of (HB).cell1).c1
            have e2 := (StoAt.of (HB).cell1).c2
            have e3 := (StoAt.of (HB).cell1).c3
            have e4 := (StoAt.of (HB).cell1).c4
            have e5 := (StoAt.of (HB).cell1).c5
            have e6 := (StoAt.of (HB).cell1).c6
            have e7 := (StoAt.of (HB).cell1).c7
            have e8 := (StoAt.of (HB).cell1).c8
            have e9 := (StoAt.of (HB).cell1).c9
            have e10 := (StoAt.of (HB).cell1).c10
            have e11 := (StoAt.of (HB).cell1).c11
            have f0 := (TruAt.of (HB).cell2).c0
            have f1 := (TruAt.of (HB).cell2).c1
            have f2 := (TruAt.of (HB).cell2).c2
            have f3 := (TruAt.of (HB).cell2).c3
            go_wp2_with fail
            (with_reducible refine (HH.out x y _ x0' x9' y0' y9').mono ?_)
            rintro e w1 ⟨rfl, hb⟩
            have HB1 := (HB.drewN _).step hb
            clear hb
            cases hh : hitB s t x y
            · go_wp2_with fail
              go_ret
              exact ⟨ret_bool (by rw [HF.out, ← HF.out, ← HR.out, HG.out, List.any_cons, ← HR2.out, HG2.out, List.any_cons, HPV.out, hh]; rfl), HB1.below⟩
            · go_wp2_with fail
              go_roundw
              case rel => exact ⟨y + 1, by omega, by omega, by go_num, by rw [← HR2.out, HG2.out, List.any_cons, HPV.out, hh]; rfl, HB1⟩
              case measure => simp [intOf]; omega
          · cases hh : hitB s t x y
            · have HPV : Hid (fitsP s t k x y = false) := by show _ = _; rw [HP.out, HV.out, hh]; simp
              go_wp2_with fail
              refine wp_region_held_drew (S := fun W => Boxed3 w #[.int .i64 s.wide, .int .i64 s.high, .int .i64 s.fall, .int .i64 s.a.lo, .int .i64 s.a.hi, .int .i64 s.b.lo, .int .i64 s.b.hi, .int .i64 s.half.lo, .int .i64 s.half.hi, .int .i64 s.peak.lo, .int .i64 s.peak.hi, .slice p n c] 26 #[.int .i64 t.a, .int .i64 t.b, .int .i64 t.half, .int .i64 t.peak] 92 #[.int .i64 k.x.lo, .int .i64 k.x.hi, .int .i64 k.y.lo, .int .i64 k.y.hi, .bool k.hail, .int .i64 k.size.lo, .int .i64 k.size.hi] 61 W) (by kernel_rfl) (HB.drew) (fun hS => ?_)
              simp only [List.size_toArray, List.length_cons, List.length_nil, Nat.reduceAdd, Array.replicate_succ, Array.replicate_zero, List.push_toArray, List.nil_append, List.cons_append]
              refine tkH (i := 0) (v := ?_) (fun V hV => ?_) ?_
              rotate_left
              · go_simp
                try with_reducible rfl
              try simp only [Act.put, List.getElem_toArray, List.getElem_cons_zero, List.setIfInBounds_toArray, List.set_cons_zero, List.set_cons_succ]
              refine tkH (i := 1) (v := ?_) (fun V hV => ?_) ?_
              rotate_left
              · have z4 := (CrdAt.of hV.cell3).c4; rw [HV.out] at z4; go_simp
                try with_reducible rfl
              try simp only [Act.put, List.getElem_toArray, List.getElem_cons_zero, List.getElem_cons_succ, List.setIfInBounds_toArray, List.set_cons_zero, List.set_cons_succ]
              refine tkH (i := 2) (v := ?_) (fun V hV => ?_) ?_
              rotate_left
              · go_simp
                try with_reducible rfl
              try simp only [Act.put, List.getElem_toArray, List.getElem_cons_zero, List.getElem_cons_succ, List.setIfInBounds_toArray, List.set_cons_zero, List.set_cons_succ]
              refine tkH (i := 3) (v := ?_) (fun V hV => ?_) ?_
              rotate_left
              · have e0 := (StoAt.of (hV).cell1).c0; have e1 := (StoAt.of (hV).cell1).c1; have e2 := (StoAt.of (hV).cell1).c2; have e3 := (StoAt.of (hV).cell1).c3; have e4 := (StoAt.of (hV).cell1).c4; have e5 := (StoAt.of (hV).cell1).c5; have e6 := (StoAt.of (hV).cell1).c6; have e7 := (StoAt.of (hV).cell1).c7; have e8 := (StoAt.of (hV).cell1).c8; have e9 := (StoAt.of (hV).cell1).c9; have e10 := (StoAt.of (hV).cell1).c10; have e11 := (StoAt.of (hV).cell1).c11; go_simp
                try with_reducible rfl
              try simp only [Act.put, List.getElem_toArray, List.getElem_cons_zero, List.getElem_cons_succ, List.setIfInBounds_toArray, List.set_cons_zero, List.set_cons_succ]
              refine tkH (i := 4) (v := ?_) (fun V hV => ?_) ?_
              rotate_left
              · have f0 := (TruAt.of (hV).cell2).c0; have f1 := (TruAt.of (hV).cell2).c1; have f2 := (TruAt.of (hV).cell2).c2; have f3 := (TruAt.of (hV).cell2).c3; go_simp
                try with_reducible rfl
              try simp only [Act.put, List.getElem_toArray, List.getElem_cons_zero, List.getElem_cons_succ, List.setIfInBounds_toArray, List.set_cons_zero, List.set_cons_succ]
              refine tkH (i := 5) (v := ?_) (fun V hV => ?_) ?_
              rotate_left
              · go_simp
                try with_reducible rfl
              try simp only [Act.put, List.getElem_toArray, List.getElem_cons_zero, List.getElem_cons_succ, List.setIfInBounds_toArray, List.set_cons_zero, List.set_cons_succ]
              refine tkH (i := 6) (v := ?_) (fun V hV => ?_) ?_
              rotate_left
              · go_simp
                try with_reducible rfl
              try simp only [Act.put, List.getElem_toArray, List.getElem_cons_zero, List.getElem_cons_succ, List.setIfInBounds_toArray, List.set_cons_zero, List.set_cons_succ]
              refine wpAnyH_ready (rs := [7]) (by kernel_rfl) (by simp) ?_
              refine AllReadyH.cons (o := _) rfl (fun K hK => ?_) AllReadyH.nil
              go_simp
              (with_reducible refine (HH.out x y _ x0' x9' y0' y9').mono ?_)
              rintro e w1 ⟨rfl, hb⟩
              refine hK.out _ _ (hS.step hb) (fun hS => ?_)
              clear hK K
              try simp only [List.setIfInBounds_toArray, List.set_cons_zero, List.set_cons_succ]
              refine tkH (i := 8) (v := ?_) (fun V hV => ?_) ?_
              rotate_left
              · go_simp
                try with_reducible rfl
              try simp only [Act.put, List.getElem_toArray, List.getElem_cons_zero, List.getElem_cons_succ, List.setIfInBounds_toArray, List.set_cons_zero, List.set_cons_succ]
              refine tkH (i := 9) (v := ?_) (fun V hV => ?_) ?_
              rotate_left
              · go_simp
                try with_reducible rfl
              try simp only [Act.put, List.getElem_toArray, List.getElem_cons_zero, List.getElem_cons_succ, List.setIfInBounds_toArray, List.set_cons_zero, List.set_cons_succ]
              refine tkU (i := 10) ?_
              try simp only [Act.put, List.getElem_toArray, List.getElem_cons_zero, List.getElem_cons_succ, List.setIfInBounds_toArray, List.set_cons_zero, List.set_cons_succ]
              refine tkU (i := 11) ?_
              try simp only [Act.put, List.getElem_toArray, List.getElem_cons_zero, List.getElem_cons_succ, List.setIfInBounds_toArray, List.set_cons_zero, List.set_cons_succ]
              refine tkU (i := 12) ?_
              try simp only [Act.put, List.getElem_toArray, List.getElem_cons_zero, List.getElem_cons_succ, List.setIfInBounds_toArray, List.set_cons_zero, List.set_cons_succ]
              refine tkU (i := 13) ?_
              try simp only [Act.put, List.getElem_toArray, List.getElem_cons_zero, List.getElem_cons_succ, List.setIfInBounds_toArray, List.set_cons_zero, List.set_cons_succ]
              refine tkU (i := 14) ?_
              try simp only [Act.put, List.getElem_toArray, List.getElem_cons_zero, List.getElem_cons_succ, List.setIfInBounds_toArray, List.set_cons_zero, List.set_cons_succ]
              refine tkU (i := 15) ?_
              try simp only [Act.put, List.getElem_toArray, List.getElem_cons_zero, List.getElem_cons_succ, List.setIfInBounds_toArray, List.set_cons_zero, List.set_cons_succ]
              refine tkU (i := 16) ?_
              try simp only [Act.put, List.getElem_toArray, List.getElem_cons_zero, List.getElem_cons_succ, List.setIfInBounds_toArray, List.set_cons_zero, List.set_cons_succ]
              refine tkU (i := 17) ?_
              try simp only [Act.put, List.getElem_toArray, List.getElem_cons_zero, List.getElem_cons_succ, List.setIfInBounds_toArray, List.set_cons_zero, List.set_cons_succ]
              refine tkU (i := 18) ?_
              try simp only [Act.put, List.getElem_toArray, List.getElem_cons_zero, List.getElem_cons_succ, List.setIfInBounds_toArray, List.set_cons_zero, List.set_cons_succ]
              refine tkU (i := 19) ?_
              try simp only [Act.put, List.getElem_toArray, List.getElem_cons_zero, List.getElem_cons_succ, List.setIfInBounds_toArray, List.set_cons_zero, List.set_cons_succ]
              refine tkU (i := 20) ?_
              try simp only [Act.put, List.getElem_toArray, List.getElem_cons_zero, List.getElem_cons_succ, List.setIfInBounds_toArray, List.set_cons_zero, List.set_cons_succ]
              refine tkU (i := 21) ?_
              try simp only [Act.put, List.getElem_toArray, List.getElem_cons_zero, List.getElem_cons_succ, List.setIfInBounds_toArray, List.set_cons_zero, List.set_cons_succ]
              refine tkH (i := 22) (v := ?_) (fun V hV => ?_) ?_
              rotate_left
              · go_simp
                try with_reducible rfl
              try simp only [Act.put, List.getElem_toArray, List.getElem_cons_zero, List.getElem_cons_succ, List.setIfInBounds_toArray, List.set_cons_zero, List.set_cons_succ]
              refine wpAnyH_done (by kernel_rfl) ?_ _
              have HB1 := hS
              have z4 := (CrdAt.of HB1.cell3).c4
              rw [HV.out] at z4
              clear hS
              go_wp2_with fail
              go_roundw
              case rel => exact ⟨y + 1, by omega, by omega, by go_num, by rw [← HR2.out, HG2.out, List.any_cons, HPV.out]; rfl, HB1⟩
              case measure => simp [intOf]; omega
            · cases hi : inB (sizeS s t x y) k.size.lo k.size.hi
              · have HPV : Hid (fitsP s t k x y = false) := by show _ = _; rw [HP.out, HV.out, hh, hi]; simp
                go_wp2_with fail
                go_region_held3 (fun W => W.cell? ⟨w.heap.size, 0, none⟩ = some (.int .i64 s.wide) ∧ W.cell? ⟨w.heap.size, 1, none⟩ = some (.int .i64 s.high) ∧ W.cell? ⟨w.heap.size, 2, none⟩ = some (.int .i64 s.fall) ∧ W.cell? ⟨w.heap.size, 3, none⟩ = some (.int .i64 s.a.lo) ∧ W.cell? ⟨w.heap.size, 4, none⟩ = some (.int .i64 s.a.hi) ∧ W.cell? ⟨w.heap.size, 5, none⟩ = some (.int .i64 s.b.lo) ∧ W.cell? ⟨w.heap.size, 6, none⟩ = some (.int .i64 s.b.hi) ∧ W.cell? ⟨w.heap.size, 7, none⟩ = some (.int .i64 s.half.lo) ∧ W.cell? ⟨w.heap.size, 8, none⟩ = some (.int .i64 s.half.hi) ∧ W.cell? ⟨w.heap.size, 9, none⟩ = some (.int .i64 s.peak.lo) ∧ W.cell? ⟨w.heap.size, 10, none⟩ = some (.int .i64 s.peak.hi) ∧ W.cell? ⟨w.heap.size, 11, none⟩ = some (.slice p n c) ∧ W.cell? ⟨w.heap.size + 1, 0, none⟩ = some (.int .i64 t.a) ∧ W.cell? ⟨w.heap.size + 1, 1, none⟩ = some (.int .i64 t.b) ∧ W.cell? ⟨w.heap.size + 1, 2, none⟩ = some (.int .i64 t.half) ∧ W.cell? ⟨w.heap.size + 1, 3, none⟩ = some (.int .i64 t.peak) ∧ W.cell? ⟨w.heap.size + 2, 0, none⟩ = some (.int .i64 k.x.lo) ∧ W.cell? ⟨w.heap.size + 2, 1, none⟩ = some (.int .i64 k.x.hi) ∧ W.cell? ⟨w.heap.size + 2, 2, none⟩ = some (.int .i64 k.y.lo) ∧ W.cell? ⟨w.heap.size + 2, 3, none⟩ = some (.int .i64 k.y.hi) ∧ W.cell? ⟨w.heap.size + 2, 4, none⟩ = some (.bool true) ∧ W.cell? ⟨w.heap.size + 2, 5, none⟩ = some (.int .i64 k.size.lo) ∧ W.cell? ⟨w.heap.size + 2, 6, none⟩ = some (.int .i64 k.size.hi) ∧ Boxed3 w #[.int .i64 s.wide, .int .i64 s.high, .int .i64 s.fall, .int .i64 s.a.lo, .int .i64 s.a.hi, .int .i64 s.b.lo, .int .i64 s.b.hi, .int .i64 s.half.lo, .int .i64 s.half.hi, .int .i64 s.peak.lo, .int .i64 s.peak.hi, .slice p n c] 26 #[.int .i64 t.a, .int .i64 t.b, .int .i64 t.half, .int .i64 t.peak] 92 #[.int .i64 k.x.lo, .int .i64 k.x.hi, .int .i64 k.y.lo, .int .i64 k.y.hi, .bool k.hail, .int .i64 k.size.lo, .int .i64 k.size.hi] 61 W)
                  (first | exact ref3_of HV.out (by assumption) | exact ref3_of HV.out (Boxed3.drew (by assumption)))
                  (first | (go_at_call 96; go_split_ands; (with_reducible refine (HH.out x y _ x0' x9' y0' y9').mono ?_); rintro e w1 ⟨rfl, hb⟩; have HB := Boxed3.step (by assumption) hb; clear hb) | (go_at_call 63; go_split_ands; (with_reducible refine (HS.out x y _ x0' x9' y0' y9').mono ?_); rintro e w1 ⟨rfl, hb⟩; have HB := Boxed3.step (by assumption) hb; clear hb) | (go_at_call 24; go_split_ands; (with_reducible refine (in_any _ _ _ _).mono ?_); rintro e w1 ⟨rfl, rfl⟩))
                all_goals
                  have z4 := (CrdAt.of HB.cell3).c4
                  rw [HV.out] at z4
                  go_wp2_with fail
                  go_roundw
                  case rel => exact ⟨y + 1, by omega, by omega, by go_num, by rw [← HR2.out, HG2.out, List.any_cons, HPV.out]; rfl, HB⟩
                  case measure => simp [intOf]; omega
              · have HPV : Hid (fitsP s t k x y = true) := by show _ = _; rw [HP.out, HV.out, hh, hi]; simp
                go_wp2_with fail
                go_region_held3 (fun W => W.cell? ⟨w.heap.size, 0, none⟩ = some (.int .i64 s.wide) ∧ W.cell? ⟨w.heap.size, 1, none⟩ = some (.int .i64 s.high) ∧ W.cell? ⟨w.heap.size, 2, none⟩ = some (.int .i64 s.fall) ∧ W.cell? ⟨w.heap.size, 3, none⟩ = some (.int .i64 s.a.lo) ∧ W.cell? ⟨w.heap.size, 4, none⟩ = some (.int .i64 s.a.hi) ∧ W.cell? ⟨w.heap.size, 5, none⟩ = some (.int .i64 s.b.lo) ∧ W.cell? ⟨w.heap.size, 6, none⟩ = some (.int .i64 s.b.hi) ∧ W.cell? ⟨w.heap.size, 7, none⟩ = some (.int .i64 s.half.lo) ∧ W.cell? ⟨w.heap.size, 8, none⟩ = some (.int .i64 s.half.hi) ∧ W.cell? ⟨w.heap.size, 9, none⟩ = some (.int .i64 s.peak.lo) ∧ W.cell? ⟨w.heap.size, 10, none⟩ = some (.int .i64 s.peak.hi) ∧ W.cell? ⟨w.heap.size, 11, none⟩ = some (.slice p n c) ∧ W.cell? ⟨w.heap.size + 1, 0, none⟩ = some (.int .i64 t.a) ∧ W.cell? ⟨w.heap.size + 1, 1, none⟩ = some (.int .i64 t.b) ∧ W.cell? ⟨w.heap.size + 1, 2, none⟩ = some (.int .i64 t.half) ∧ W.cell? ⟨w.heap.size + 1, 3, none⟩ = some (.int .i64 t.peak) ∧ W.cell? ⟨w.heap.size + 2, 0, none⟩ = some (.int .i64 k.x.lo) ∧ W.cell? ⟨w.heap.size + 2, 1, none⟩ = some (.int .i64 k.x.hi) ∧ W.cell? ⟨w.heap.size + 2, 2, none⟩ = some (.int .i64 k.y.lo) ∧ W.cell? ⟨w.heap.size + 2, 3, none⟩ = some (.int .i64 k.y.hi) ∧ W.cell? ⟨w.heap.size + 2, 4, none⟩ = some (.bool true) ∧ W.cell? ⟨w.heap.size + 2, 5, none⟩ = some (.int .i64 k.size.lo) ∧ W.cell? ⟨w.heap.size + 2, 6, none⟩ = some (.int .i64 k.size.hi) ∧ Boxed3 w #[.int .i64 s.wide, .int .i64 s.high, .int .i64 s.fall, .int .i64 s.a.lo, .int .i64 s.a.hi, .int .i64 s.b.lo, .int .i64 s.b.hi, .int .i64 s.half.lo, .int .i64 s.half.hi, .int .i64 s.peak.lo, .int .i64 s.peak.hi, .slice p n c] 26 #[.int .i64 t.a, .int .i64 t.b, .int .i64 t.half, .int .i64 t.peak] 92 #[.int .i64 k.x.lo, .int .i64 k.x.hi, .int .i64 k.y.lo, .int .i64 k.y.hi, .bool k.hail, .int .i64 k.size.lo, .int .i64 k.size.hi] 61 W)
                  (first | exact ref3_of HV.out (by assumption) | exact ref3_of HV.out (Boxed3.drew (by assumption)))
                  (first | (go_at_call 96; go_split_ands; (with_reducible refine (HH.out x y _ x0' x9' y0' y9').mono ?_); rintro e w1 ⟨rfl, hb⟩; have HB := Boxed3.step (by assumption) hb; clear hb) | (go_at_call 63; go_split_ands; (with_reducible refine (HS.out x y _ x0' x9' y0' y9').mono ?_); rintro e w1 ⟨rfl, hb⟩; have HB := Boxed3.step (by assumption) hb; clear hb) | (go_at_call 24; go_split_ands; (with_reducible refine (in_any _ _ _ _).mono ?_); rintro e w1 ⟨rfl, rfl⟩))
                all_goals
                  go_wp2_with fail
                  go_ret
                  exact ⟨ret_bool (by rw [← HR.out, HG.out, List.any_cons, ← HR2.out, HG2.out, List.any_cons, HPV.out]; rfl), HB.below⟩
        · have HE : Hid (rowB s t k x = false) := by show _ = _; rw [← HR2.out, nums_end (by omega)]; rfl
          go_wp2_with fail
          go_roundw
          case rel => exact ⟨x + 1, by omega, by omega, by go_num, by rw [← HR.out, HG.out, List.any_cons, HE.out]; rfl, HB⟩
          case measure => simp [intOf]; omega
    · have HE : Hid (fitsB s t k = false) := by show _ = _; rw [← HR.out, nums_end (by omega)]; rfl
      go_wp2_with fail
      go_ret
      exact ⟨ret_bool HE.out.symm, HB.below⟩
end Go.Proofs.Ytfnefkenheglhaa
