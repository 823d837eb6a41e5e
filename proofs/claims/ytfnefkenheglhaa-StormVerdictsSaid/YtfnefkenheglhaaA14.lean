/- The reference: whether some and all places of a rectangle are in the path; the verdict. No condition. -/
import Derived.Test.YtfnefkenheglhaaA11
import Derived.Test.YtfnefkenheglhaaP8
import Derived.Test.YtfnefkenheglhaaP9
namespace Go.Proofs.Ytfnefkenheglhaa
open Go.RowKit

def anyRow (s : Sto) (t : Tru) (Y : Rng) (a : Int) : Bool := Y.nums.any fun b => hitB s t a b
def allRow (s : Sto) (t : Tru) (Y : Rng) (a : Int) : Bool := Y.nums.all fun b => hitB s t a b
theorem hits_some (s : Sto) (t : Tru) (X Y : Rng) : hitsB s t X Y true = X.nums.any (anyRow s t Y) := by
  unfold hitsB placesL anyRow
  simp [List.any_flatMap, List.any_map, Function.comp_def]
theorem hits_all (s : Sto) (t : Tru) (X Y : Rng) : (!hitsB s t X Y false) = X.nums.all (allRow s t Y) := by
  unfold hitsB placesL allRow
  rw [Bool.eq_iff_iff]
  simp only [Bool.not_eq_true', List.any_eq_false, List.all_eq_true, List.mem_flatMap, List.mem_map]
  constructor
  · intro h a ha b hb
    have := h (a, b) ⟨a, ha, b, hb, rfl⟩
    cases hh : hitB s t a b
    · simp [hh] at this
    · rfl
  · rintro h q ⟨a, ha, b, hb, rfl⟩
    simp [h a ha b hb]

set_option maxRecDepth 40000 in
set_option maxHeartbeats 16000000 in
theorem places_any (s : Sto) (p : Option Addr) (n c : Nat) (t : Tru) (x y : Rng) (w : World) (hs : SmallS s) (ht : SmallT t) (hq : SmallQ x y) :
    Calls Try.prog 61 #[.agg #[.int .i64 s.wide, .int .i64 s.high, .int .i64 s.fall, .int .i64 s.a.lo, .int .i64 s.a.hi, .int .i64 s.b.lo, .int .i64 s.b.hi, .int .i64 s.half.lo, .int .i64 s.half.hi, .int .i64 s.peak.lo, .int .i64 s.peak.hi, .slice p n c], .agg #[.int .i64 t.a, .int .i64 t.b, .int .i64 t.half, .int .i64 t.peak], .agg #[.int .i64 x.lo, .int .i64 x.hi, .int .i64 y.lo, .int .i64 y.hi]] w fun e w' => e = .returned (.tuple #[.bool (hitsB s t x y true), .bool (!hitsB s t x y false)]) ∧ Below w.heap.size w w' := by
  have HH := hid (fun a b W hx hx' hy hy' => hit_any s p n c t a b W hs ht hx hx' hy hy')
  have x0 := hq.x0; have x9 := hq.x9; have y0 := hq.y0; have y9 := hq.y9; have xx := hq.xx; have yy := hq.yy
  clear hs ht hq
  have HS := hid (hits_some s t x y); have HA := hid (hits_all s t x y)
  obtain ⟨SS, hSS⟩ : ∃ v, hitsB s t x y true = v := ⟨_, rfl⟩
  obtain ⟨AA, hAA⟩ : ∃ v, (!hitsB s t x y false) = v := ⟨_, rfl⟩
  rw [hSS] at HS
  rw [hAA] at HA
  rw [hSS, hAA]
  clear hSS hAA
  go_enter Try.func61, Try.ntmps61
  go_wp2_with fail
  go_loopw [8, 9, 10] (fun u v i wr => ∃ (a : Int) (sm al : Bool), x.lo ≤ a ∧ a ≤ x.hi + 1 ∧ u = .bool sm ∧ v = .bool al ∧ i = .int .i64 a ∧ (sm || (⟨a, x.hi⟩ : Rng).nums.any (anyRow s t y)) = SS ∧ (al && (⟨a, x.hi⟩ : Rng).nums.all (allRow s t y)) = AA ∧ Boxed3 w #[.int .i64 s.wide, .int .i64 s.high, .int .i64 s.fall, .int .i64 s.a.lo, .int .i64 s.a.hi, .int .i64 s.b.lo, .int .i64 s.b.hi, .int .i64 s.half.lo, .int .i64 s.half.hi, .int .i64 s.peak.lo, .int .i64 s.peak.hi, .slice p n c] 26 #[.int .i64 t.a, .int .i64 t.b, .int .i64 t.half, .int .i64 t.peak] 92 #[.int .i64 x.lo, .int .i64 x.hi, .int .i64 y.lo, .int .i64 y.hi] 64 wr) (fun _ _ i _ => (x.hi + 1 - intOf i).toNat)
  case atStart => exact ⟨x.lo, false, true, by omega, by omega, rfl, rfl, rfl, by rw [HS.out]; rfl, by rw [HA.out]; rfl, Below.refl _ _⟩
  case round =>
    obtain ⟨a, sm, al, ha, ha', rfl, rfl, rfl, hr1, hr2, HB⟩ := hrel
    have HR1 := hid hr1; have HR2 := hid hr2
    clear hr1 hr2
    have d1 := (RecAt.of HB.cell3).c1
    have d2 := (RecAt.of HB.cell3).c2
    by_cases hle : a ≤ x.hi
    · have HG := hid (nums_go hle)
      go_wp2_with fail
      clear d1 d2
      obtain ⟨wo, rfl⟩ : ∃ wo : World, wo = wr := ⟨_, rfl⟩
      go_loopw [8, 9, 11] (fun u v i wr => ∃ (b : Int) (sm al : Bool), y.lo ≤ b ∧ b ≤ y.hi + 1 ∧ u = .bool sm ∧ v = .bool al ∧ i = .int .i64 b ∧ (sm || ((⟨b, y.hi⟩ : Rng).nums.any (fun b => hitB s t a b) || (⟨a + 1, x.hi⟩ : Rng).nums.any (anyRow s t y))) = SS ∧ (al && ((⟨b, y.hi⟩ : Rng).nums.all (fun b => hitB s t a b) && (⟨a + 1, x.hi⟩ : Rng).nums.all (allRow s t y))) = AA ∧ Boxed3 w #[.int .i64 s.wide, .int .i64 s.high, .int .i64 s.fall, .int .i64 s.a.lo, .int .i64 s.a.hi, .int .i64 s.b.lo, .int .i64 s.b.hi, .int .i64 s.half.lo, .int .i64 s.half.hi, .int .i64 s.peak.lo, .int .i64 s.peak.hi, .slice p n c] 26 #[.int .i64 t.a, .int .i64 t.b, .int .i64 t.half, .int .i64 t.peak] 92 #[.int .i64 x.lo, .int .i64 x.hi, .int .i64 y.lo, .int .i64 y.hi] 64 wr) (fun _ _ i _ => (y.hi + 1 - intOf i).toNat)
      case atStart => exact ⟨y.lo, sm, al, by omega, by omega, rfl, rfl, rfl, by rw [← HR1.out, HG.out]; rfl, by rw [← HR2.out, HG.out]; rfl, HB⟩
      case round =>
        clear HB
        obtain ⟨b, sm, al, hb, hb', rfl, rfl, rfl, hr1, hr2, HB⟩ := hrel
        have HS1 := hid hr1; have HS2 := hid hr2
        clear hr1 hr2
        have d3 := (RecAt.of HB.cell3).c3
        by_cases hly : b ≤ y.hi
        · have HG2 := hid (nums_go hly)
          have e0 := (StoAt.of HB.cell1).c0; have e1 := (StoAt.of HB.cell1).c1; have e2 := (StoAt.of HB.cell1).c2; have e3 := (StoAt.of HB.cell1).c3; have e4 := (StoAt.of HB.cell1).c4; have e5 := (StoAt.of HB.cell1).c5; have e6 := (StoAt.of HB.cell1).c6; have e7 := (StoAt.of HB.cell1).c7; have e8 := (StoAt.of HB.cell1).c8; have e9 := (StoAt.of HB.cell1).c9; have e10 := (StoAt.of HB.cell1).c10; have e11 := (StoAt.of HB.cell1).c11; have f0 := (TruAt.of HB.cell2).c0; have f1 := (TruAt.of HB.cell2).c1; have f2 := (TruAt.of HB.cell2).c2; have f3 := (TruAt.of HB.cell2).c3
          go_wp2_with fail
          (with_reducible refine (HH.out a b _ (by omega) (by omega) (by omega) (by omega)).mono ?_)
          rintro e w1 ⟨rfl, hb1⟩
          have HB1 := HB.step hb1
          clear hb1 d3 e0 e1 e2 e3 e4 e5 e6 e7 e8 e9 e10 e11 f0 f1 f2 f3
          cases hh : hitB s t a b
          · have HT1 : Hid ((sm || ((⟨b + 1, y.hi⟩ : Rng).nums.any (fun b => hitB s t a b) || (⟨a + 1, x.hi⟩ : Rng).nums.any (anyRow s t y))) = SS) := by show _ = _; rw [← HS1.out, HG2.out, List.any_cons, hh]; simp
            have HT2 : Hid ((false && ((⟨b + 1, y.hi⟩ : Rng).nums.all (fun b => hitB s t a b) && (⟨a + 1, x.hi⟩ : Rng).nums.all (allRow s t y))) = AA) := by show _ = _; rw [← HS2.out, HG2.out, List.all_cons, hh]; simp
            clear hh
            go_wp2_with fail
            go_roundw
            case rel => exact ⟨b + 1, sm, false, by omega, by omega, rfl, rfl, by go_num, HT1.out, HT2.out, HB1⟩
            case measure => simp [intOf]; omega
          · have HT1 : Hid ((true || ((⟨b + 1, y.hi⟩ : Rng).nums.any (fun b => hitB s t a b) || (⟨a + 1, x.hi⟩ : Rng).nums.any (anyRow s t y))) = SS) := by show _ = _; rw [← HS1.out, HG2.out, List.any_cons, hh]; simp
            have HT2 : Hid ((al && ((⟨b + 1, y.hi⟩ : Rng).nums.all (fun b => hitB s t a b) && (⟨a + 1, x.hi⟩ : Rng).nums.all (allRow s t y))) = AA) := by show _ = _; rw [← HS2.out, HG2.out, List.all_cons, hh]; simp
            clear hh
            go_wp2_with fail
            go_roundw
            case rel => exact ⟨b + 1, true, al, by omega, by omega, rfl, rfl, by go_num, HT1.out, HT2.out, HB1⟩
            case measure => simp [intOf]; omega
        · have HT1 : Hid ((sm || (⟨a + 1, x.hi⟩ : Rng).nums.any (anyRow s t y)) = SS) := by show _ = _; rw [← HS1.out, nums_end (show y.hi < b by omega)]; rfl
          have HT2 : Hid ((al && (⟨a + 1, x.hi⟩ : Rng).nums.all (allRow s t y)) = AA) := by show _ = _; rw [← HS2.out, nums_end (show y.hi < b by omega)]; rfl
          go_wp2_with fail
          go_roundw
          case rel => exact ⟨a + 1, sm, al, by omega, by omega, rfl, rfl, by go_num, HT1.out, HT2.out, HB⟩
          case measure => simp [intOf]; omega
    · have HT1 : Hid (sm = SS) := by show _ = _; rw [← HR1.out, nums_end (show x.hi < a by omega)]; simp
      have HT2 : Hid (al = AA) := by show _ = _; rw [← HR2.out, nums_end (show x.hi < a by omega)]; simp
      go_wp2_with fail
      go_ret2
      exact ⟨by rw [HT1.out, HT2.out]; rfl, HB.below⟩

set_option maxRecDepth 40000 in
set_option maxHeartbeats 16000000 in
theorem verdR_any (s : Sto) (p : Option Addr) (n c : Nat) (q : Option Addr) (N d : Nat) (L : List Tru) (x y : Rng) (w : World) (hr : RowsAt cellsT 4 w q N L) (hN : N ≤ 100000) (hs : SmallS s) (hT : ∀ t ∈ L, SmallT t) (hq : SmallQ x y) :
    Calls Try.prog 66 #[.agg #[.int .i64 s.wide, .int .i64 s.high, .int .i64 s.fall, .int .i64 s.a.lo, .int .i64 s.a.hi, .int .i64 s.b.lo, .int .i64 s.b.hi, .int .i64 s.half.lo, .int .i64 s.half.hi, .int .i64 s.peak.lo, .int .i64 s.peak.hi, .slice p n c], .slice q N d, .agg #[.int .i64 x.lo, .int .i64 x.hi, .int .i64 y.lo, .int .i64 y.hi]] w fun e w' => e = .returned (.int .i64 (verdT s L x y)) ∧ Below w.heap.size w w' := by
  have HR := hid hr; have HS := hid hs; have HTT := hid hT; have HQ := hid hq
  have HLE := hid hr.1
  clear hr hs hT hq
  obtain ⟨OO, hO⟩ : ∃ v, (L.all fun t => !hitsB s t x y true) = v := ⟨_, rfl⟩
  obtain ⟨II, hI⟩ : ∃ v, (L.all fun t => !hitsB s t x y false) = v := ⟨_, rfl⟩
  have HV : Hid (verdT s L x y = if II = true then 1 else if OO = true then 2 else 3) := by show _ = _; rw [verdT, hO, hI]
  have HO := hid hO; have HI := hid hI
  rw [HV.out]
  clear hO hI HV
  go_enter Try.func66, Try.ntmps66
  go_wp2_with fail
  go_loopw [7, 8, 9] (fun u v j wr => ∃ (k : Nat) (o i : Bool), k ≤ N ∧ u = .bool o ∧ v = .bool i ∧ j = .int .i64 k ∧ (o && (L.drop k).all (fun t => !hitsB s t x y true)) = OO ∧ (i && (L.drop k).all (fun t => !hitsB s t x y false)) = II ∧ Boxed2 w #[.int .i64 s.wide, .int .i64 s.high, .int .i64 s.fall, .int .i64 s.a.lo, .int .i64 s.a.hi, .int .i64 s.b.lo, .int .i64 s.b.hi, .int .i64 s.half.lo, .int .i64 s.half.hi, .int .i64 s.peak.lo, .int .i64 s.peak.hi, .slice p n c] 26 #[.int .i64 x.lo, .int .i64 x.hi, .int .i64 y.lo, .int .i64 y.hi] 64 wr) (fun _ _ j _ => N - (intOf j).toNat)
  case atStart => exact ⟨0, true, true, by omega, rfl, rfl, rfl, HO.out, HI.out, Below.refl _ _⟩
  case round =>
    obtain ⟨k, o, i, hk, rfl, rfl, rfl, h1, h2, hb⟩ := hrel
    have HB := hid hb; have HR1 := hid h1; have HR2 := hid h2
    clear h1 h2
    by_cases hlt : k < N
    · obtain ⟨t, ht, b1, o1, rfl, hlt1, hc⟩ := (HR.out.below hb.below).at hlt
      have HT := hid (HTT.out t (List.mem_of_getElem? ht))
      have HC : Hid (∀ V, Below wr.heap.size wr V → V.cell? ⟨b1, o1 + k * 4, none⟩ = some (.int .i64 t.a) ∧ V.cell? ⟨b1, o1 + k * 4 + 1, none⟩ = some (.int .i64 t.b) ∧ V.cell? ⟨b1, o1 + k * 4 + 2, none⟩ = some (.int .i64 t.half) ∧ V.cell? ⟨b1, o1 + k * 4 + 3, none⟩ = some (.int .i64 t.peak)) := fun V hV => by
        have kk : ∀ (a : Addr) (v : Value), wr.cell? a = some v → V.cell? a = some v := fun a v h => (hV.cell (World.block_lt_of_cell? _ _ h)).trans h
        exact ⟨kk _ _ (hc 0 _ rfl), kk _ _ (hc 1 _ rfl), kk _ _ (hc 2 _ rfl), kk _ _ (hc 3 _ rfl)⟩
      have HN1 : Hid (((o && !hitsB s t x y true) && (L.drop (k + 1)).all (fun t => !hitsB s t x y true)) = OO) := by show _ = _; rw [← HR1.out, drop_at' ht, List.all_cons, Bool.and_assoc]
      have HN2 : Hid (((i && !hitsB s t x y false) && (L.drop (k + 1)).all (fun t => !hitsB s t x y false)) = II) := by show _ = _; rw [← HR2.out, drop_at' ht, List.all_cons, Bool.and_assoc]
      clear ht hc hb
      go_wp2_with fail
      refine wp_region_held_drew (S := fun V => Boxed2 w #[.int .i64 s.wide, .int .i64 s.high, .int .i64 s.fall, .int .i64 s.a.lo, .int .i64 s.a.hi, .int .i64 s.b.lo, .int .i64 s.b.hi, .int .i64 s.half.lo, .int .i64 s.half.hi, .int .i64 s.peak.lo, .int .i64 s.peak.hi, .slice p n c] 26 #[.int .i64 x.lo, .int .i64 x.hi, .int .i64 y.lo, .int .i64 y.hi] 64 V ∧ Below wr.heap.size wr V) (by kernel_rfl) (⟨HB.out.drew, (Below.refl _ _).drew⟩) (fun hS => ?_)
      simp only [List.size_toArray, List.length_cons, List.length_nil, Nat.reduceAdd, Array.replicate_succ, Array.replicate_zero, List.push_toArray, List.nil_append, List.cons_append]
      refine wpAnyH_take (i := 0) (v := ?_) rfl (by kernel_rfl) (by kernel_rfl) (by kernel_rfl) (fun _ _ _ h => h) (Or.inl ⟨by rfl, fun V hV => ?_⟩) (by assumption) ?_
      rotate_left
      · have e0 := (StoAt.of hV.1.cell1).c0; have e1 := (StoAt.of hV.1.cell1).c1; have e2 := (StoAt.of hV.1.cell1).c2; have e3 := (StoAt.of hV.1.cell1).c3; have e4 := (StoAt.of hV.1.cell1).c4; have e5 := (StoAt.of hV.1.cell1).c5; have e6 := (StoAt.of hV.1.cell1).c6; have e7 := (StoAt.of hV.1.cell1).c7; have e8 := (StoAt.of hV.1.cell1).c8; have e9 := (StoAt.of hV.1.cell1).c9; have e10 := (StoAt.of hV.1.cell1).c10; have e11 := (StoAt.of hV.1.cell1).c11; go_simp
        try with_reducible rfl
      try simp only [Act.put, List.getElem_toArray, List.getElem_cons_zero, List.setIfInBounds_toArray, List.set_cons_zero, List.set_cons_succ]
      refine wpAnyH_take (i := 1) (v := ?_) rfl (by kernel_rfl) (by kernel_rfl) (by kernel_rfl) (fun _ _ _ h => h) (Or.inl ⟨by rfl, fun V hV => ?_⟩) (by assumption) ?_
      rotate_left
      · go_simp
        try with_reducible rfl
      try simp only [Act.put, List.getElem_toArray, List.getElem_cons_zero, List.getElem_cons_succ, List.setIfInBounds_toArray, List.set_cons_zero, List.set_cons_succ]
      refine wpAnyH_take (i := 2) (v := ?_) rfl (by kernel_rfl) (by kernel_rfl) (by kernel_rfl) (fun _ _ _ h => h) (Or.inl ⟨by rfl, fun V hV => ?_⟩) (by assumption) ?_
      rotate_left
      · go_simp
        try with_reducible rfl
      try simp only [Act.put, List.getElem_toArray, List.getElem_cons_zero, List.getElem_cons_succ, List.setIfInBounds_toArray, List.set_cons_zero, List.set_cons_succ]
      refine wpAnyH_take (i := 3) (v := ?_) rfl (by kernel_rfl) (by kernel_rfl) (by kernel_rfl) (fun _ _ _ h => h) (Or.inl ⟨by rfl, fun V hV => ?_⟩) (by assumption) ?_
      rotate_left
      · go_simp
        try with_reducible rfl
      try simp only [Act.put, List.getElem_toArray, List.getElem_cons_zero, List.getElem_cons_succ, List.setIfInBounds_toArray, List.set_cons_zero, List.set_cons_succ]
      refine wpAnyH_take (i := 4) (v := ?_) rfl (by kernel_rfl) (by kernel_rfl) (by kernel_rfl) (fun _ _ _ h => h) (Or.inl ⟨by rfl, fun V hV => ?_⟩) (by assumption) ?_
      rotate_left
      · have ⟨d0, d1, d2, d3⟩ := HC.out V hV.2; go_simp
        try with_reducible rfl
      try simp only [Act.put, List.getElem_toArray, List.getElem_cons_zero, List.getElem_cons_succ, List.setIfInBounds_toArray, List.set_cons_zero, List.set_cons_succ]
      refine wpAnyH_take (i := 5) (v := ?_) rfl (by kernel_rfl) (by kernel_rfl) (by kernel_rfl) (fun _ _ _ h => h) (Or.inl ⟨by rfl, fun V hV => ?_⟩) (by assumption) ?_
      rotate_left
      · have e0 := (RecAt.of hV.1.cell2).c0; have e1 := (RecAt.of hV.1.cell2).c1; have e2 := (RecAt.of hV.1.cell2).c2; have e3 := (RecAt.of hV.1.cell2).c3; go_simp
        try with_reducible rfl
      try simp only [Act.put, List.getElem_toArray, List.getElem_cons_zero, List.getElem_cons_succ, List.setIfInBounds_toArray, List.set_cons_zero, List.set_cons_succ]
      refine wpAnyH_ready (rs := [6]) (by kernel_rfl) (by simp) ?_
      refine AllReadyH.cons (o := _) rfl (fun K hK => ?_) AllReadyH.nil
      go_simp
      (with_reducible refine (places_any s p n c t x y _ HS.out HT.out HQ.out).mono ?_)
      rintro e w7 ⟨rfl, hb7⟩
      refine hK.out _ _ (⟨hS.1.step (hb7.mono (by have := hS.1.size; omega)), hS.2.trans (hb7.mono hS.2.size)⟩) (fun hS => ?_)
      clear hK K
      try simp only [List.setIfInBounds_toArray, List.set_cons_zero, List.set_cons_succ]
      refine wpAnyH_take (i := 7) (v := ?_) rfl (by kernel_rfl) (by kernel_rfl) (by kernel_rfl) (fun _ _ _ h => h) (Or.inl ⟨by rfl, fun V hV => ?_⟩) (by assumption) ?_
      rotate_left
      · go_simp
        try with_reducible rfl
      try simp only [Act.put, List.getElem_toArray, List.getElem_cons_zero, List.getElem_cons_succ, List.setIfInBounds_toArray, List.set_cons_zero, List.set_cons_succ]
      refine wpAnyH_take (i := 8) (v := ?_) rfl (by kernel_rfl) (by kernel_rfl) (by kernel_rfl) (fun _ _ _ h => h) (Or.inl ⟨by rfl, fun V hV => ?_⟩) (by assumption) ?_
      rotate_left
      · go_simp
        try with_reducible rfl
      try simp only [Act.put, List.getElem_toArray, List.getElem_cons_zero, List.getElem_cons_succ, List.setIfInBounds_toArray, List.set_cons_zero, List.set_cons_succ]
      refine wpAnyH_take (i := 9) (v := ?_) rfl (by kernel_rfl) (by kernel_rfl) (by kernel_rfl) (fun _ _ _ h => h) (Or.inl ⟨by rfl, fun V hV => ?_⟩) (by assumption) ?_
      rotate_left
      · go_simp
        try with_reducible rfl
      try simp only [Act.put, List.getElem_toArray, List.getElem_cons_zero, List.getElem_cons_succ, List.setIfInBounds_toArray, List.set_cons_zero, List.set_cons_succ]
      refine wpAnyH_take (i := 10) (v := ?_) rfl (by kernel_rfl) (by kernel_rfl) (by kernel_rfl) (fun _ _ _ h => h) (Or.inl ⟨by rfl, fun V hV => ?_⟩) (by assumption) ?_
      rotate_left
      · go_simp
        try with_reducible rfl
      try simp only [Act.put, List.getElem_toArray, List.getElem_cons_zero, List.getElem_cons_succ, List.setIfInBounds_toArray, List.set_cons_zero, List.set_cons_succ]
      refine wpAnyH_take (i := 11) (v := ?_) rfl (by kernel_rfl) (by kernel_rfl) (by kernel_rfl) (fun _ _ _ h => h) (Or.inl ⟨by rfl, fun V hV => ?_⟩) (by assumption) ?_
      rotate_left
      · go_simp
        try with_reducible rfl
      try simp only [Act.put, List.getElem_toArray, List.getElem_cons_zero, List.getElem_cons_succ, List.setIfInBounds_toArray, List.set_cons_zero, List.set_cons_succ]
      refine wpAnyH_done (by kernel_rfl) ?_ _
      have HS7 := hid hS.1
      clear hS
      obtain ⟨h1, hh1⟩ : ∃ v, hitsB s t x y true = v := ⟨_, rfl⟩
      obtain ⟨h2, hh2⟩ : ∃ v, hitsB s t x y false = v := ⟨_, rfl⟩
      rw [hh1] at HN1 ⊢
      rw [hh2] at HN2 ⊢
      clear hh1 hh2
      cases o <;> cases i <;> cases h1 <;> cases h2
      all_goals have HX1 := hid HN1.out; have HX2 := hid HN2.out; go_wp2_with fail; go_roundw
      all_goals first | exact ⟨k + 1, _, _, by omega, rfl, rfl, by go_num, HN1.out, HN2.out, HS7.out⟩ | (simp [intOf]; omega)
    · have hd : L.drop k = [] := List.drop_of_length_le (by have := HLE.out; omega)
      have HT1 : Hid (o = OO) := by show _ = _; rw [← HR1.out, hd]; simp
      have HT2 : Hid (i = II) := by show _ = _; rw [← HR2.out, hd]; simp
      rw [HT1.out, HT2.out]
      clear hd
      cases OO <;> cases II
      all_goals
        go_wp2_with fail
        go_ret
        exact ⟨rfl, HB.out.below⟩
end Go.Proofs.Ytfnefkenheglhaa
