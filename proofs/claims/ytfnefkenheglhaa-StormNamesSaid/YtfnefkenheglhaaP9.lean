/- Package storm: the verdict of a rectangle. No condition. -/
import Derived.Test.YtfnefkenheglhaaP8
namespace Go.Proofs.Ytfnefkenheglhaa
open Go.RowKit

/-- The verdict of a rectangle in some truths. -/
def verdT (s : Sto) (l : List Tru) (x y : Rng) : Int := if (l.all fun t => !hitsB s t x y false) = true then 1 else if (l.all fun t => !hitsB s t x y true) = true then 2 else 3
def verdV (s : Sto) (x y : Rng) : Int := if sureE s (rectB s x y) = 0 then verdT s (truthL s) x y else 0
theorem all_take {α : Type} (f : α → Bool) {l : List α} {k : Nat} {a : α} (h : l[k]? = some a) : (l.take (k + 1)).all f = ((l.take k).all f && f a) := by
  rw [List.take_add_one, h, List.all_append]
  simp
theorem sure_ok {s : Sto} {fine : Bool} (h : sureE s fine = 0) : OkS s ∧ fine = true ∧ truthL s ≠ [] := by
  unfold sureE at h
  split at h
  · rename_i h0
    split at h
    · rename_i h1
      split at h
      · simp at h
      · rename_i h2; exact ⟨fault_iff.1 h0, h1, h2⟩
    · simp at h
  · rename_i h0; exact absurd h h0

set_option maxRecDepth 40000 in
set_option maxHeartbeats 4000000 in
theorem rectF91_any (s : Sto) (p : Option Addr) (n c b0 b1 : Nat) (x y : Rng) (w : World) (hs : StoAt w b0 s p n c) (hr : RecAt w b1 x y) (ok : OkS s) :
    Calls Try.prog 91 #[.pointer (some ⟨b0, 0, none⟩), .pointer (some ⟨b1, 0, none⟩)] w fun e w' => e = .returned (.bool (rectB s x y)) ∧ Below w.heap.size w w' := by
  have q1 := ok.w2; have q2 := ok.w12; have q3 := ok.h1; have q4 := ok.h12
  have e0 := hs.c0; have e1 := hs.c1; have e2 := hs.c2; have e3 := hs.c3; have e4 := hs.c4; have e5 := hs.c5; have e6 := hs.c6; have e7 := hs.c7; have e8 := hs.c8; have e9 := hs.c9; have e10 := hs.c10; have e11 := hs.c11
  have f0 := hr.c0; have f1 := hr.c1; have f2 := hr.c2; have f3 := hr.c3
  go_enter Try.func91, Try.ntmps91
  go_wp2_with fail
  (with_reducible refine (rect_any _ _ _ _ _ _ _ (by omega) (by omega) (by omega) (by omega)).mono ?_)
  rintro e w1 ⟨rfl, hb⟩
  go_wp2_with fail
  go_ret
  exact ⟨rfl, hb⟩

set_option maxRecDepth 40000 in
set_option maxHeartbeats 4000000 in
theorem rectF107_any (s : Sto) (p : Option Addr) (n c b0 b1 : Nat) (x y : Rng) (w : World) (hs : StoAt w b0 s p n c) (hr : RecAt w b1 x y) (ok : OkS s) :
    Calls Try.prog 107 #[.pointer (some ⟨b0, 0, none⟩), .pointer (some ⟨b1, 0, none⟩)] w fun e w' => e = .returned (.bool (rectB s x y)) ∧ Below w.heap.size w w' := by
  have q1 := ok.w2; have q2 := ok.w12; have q3 := ok.h1; have q4 := ok.h12
  have e0 := hs.c0; have e1 := hs.c1; have e2 := hs.c2; have e3 := hs.c3; have e4 := hs.c4; have e5 := hs.c5; have e6 := hs.c6; have e7 := hs.c7; have e8 := hs.c8; have e9 := hs.c9; have e10 := hs.c10; have e11 := hs.c11
  have f0 := hr.c0; have f1 := hr.c1; have f2 := hr.c2; have f3 := hr.c3
  go_enter Try.func107, Try.ntmps107
  go_wp2_with fail
  (with_reducible refine (rect_any _ _ _ _ _ _ _ (by omega) (by omega) (by omega) (by omega)).mono ?_)
  rintro e w1 ⟨rfl, hb⟩
  go_wp2_with fail
  go_ret
  exact ⟨rfl, hb⟩

set_option maxRecDepth 40000 in
set_option maxHeartbeats 4000000 in
theorem verdict_any (s : Sto) (p : Option Addr) (n c : Nat) (x y : Rng) (w : World) (hcs : CrdsAt w p n s.cards) :
    Calls Try.prog 39 #[.agg #[.int .i64 s.wide, .int .i64 s.high, .int .i64 s.fall, .int .i64 s.a.lo, .int .i64 s.a.hi, .int .i64 s.b.lo, .int .i64 s.b.hi, .int .i64 s.half.lo, .int .i64 s.half.hi, .int .i64 s.peak.lo, .int .i64 s.peak.hi, .slice p n c], .agg #[.int .i64 x.lo, .int .i64 x.hi, .int .i64 y.lo, .int .i64 y.hi]] w fun e w' => e = .returned (.tuple #[.int .i64 (verdV s x y), .int .i64 (sureE s (rectB s x y))]) ∧ Below w.heap.size w w' := by
  have hmf : ∀ (fn : Fn) (first cap : Array Value) (w : World), (Instr.makeFunc fn first cap).run Try.prog w = .ok (.func fn first cap) w := fun _ _ _ _ => rfl
  have HA := hid (fun W (hB : Boxed2 w #[.int .i64 s.wide, .int .i64 s.high, .int .i64 s.fall, .int .i64 s.a.lo, .int .i64 s.a.hi, .int .i64 s.b.lo, .int .i64 s.b.hi, .int .i64 s.half.lo, .int .i64 s.half.hi, .int .i64 s.peak.lo, .int .i64 s.peak.hi, .slice p n c] 35 #[.int .i64 x.lo, .int .i64 x.hi, .int .i64 y.lo, .int .i64 y.hi] 70 W) => asked91_any s p n c w.heap.size (w.heap.size + 1) (rectB s x y) W (hcs.below hB.below) (fun h0 W' hW' => rectF91_any s p n c _ _ x y W' ((StoAt.of hB.cell1).below hW') ((RecAt.of hB.cell2).below hW') (fault_iff.1 h0)))
  clear hcs
  have HV := hid (show verdV s x y = if sureE s (rectB s x y) = 0 then verdT s (truthL s) x y else 0 from rfl)
  go_enter Try.func39, Try.ntmps39
  go_wp2_with fail
  refine (HA.out _ (Below.refl _ _)).mono ?_
  rintro e w1 ⟨pw, v, rfl, hown, hb⟩
  have HB : Boxed2 w #[.int .i64 s.wide, .int .i64 s.high, .int .i64 s.fall, .int .i64 s.a.lo, .int .i64 s.a.hi, .int .i64 s.b.lo, .int .i64 s.b.hi, .int .i64 s.half.lo, .int .i64 s.half.hi, .int .i64 s.peak.lo, .int .i64 s.peak.hi, .slice p n c] 35 #[.int .i64 x.lo, .int .i64 x.hi, .int .i64 y.lo, .int .i64 y.hi] 70 w1 := hb.mono (by simp)
  obtain ⟨p', c', rfl, hrow⟩ := hown.slice cellsT_len
  have HR := hid hrow
  clear hown hrow hb hmf
  by_cases hE : sureE s (rectB s x y) = 0
  · obtain ⟨ok, hre, hne⟩ := sure_ok hE
    have HQ := hid (ok.smallQ hre)
    have HS := hid ok.small
    have HTR := hid (fun t (ht : t ∈ truthL s) => ok.smallT (mem_poss.1 (List.mem_filter.1 ht).1))
    have hlen := truth_len ok
    have HVV : Hid (verdV s x y = verdT s (truthL s) x y) := by show _ = _; rw [HV.out, if_pos hE]
    have hl : sureL s (rectB s x y) = truthL s := by rw [sureL, if_pos hE]
    rw [hl] at HR ⊢
    rw [hE]
    have HE := hid hE
    clear hE ok hre hne hl HV
    obtain ⟨L, hL⟩ : ∃ L, truthL s = L := ⟨_, rfl⟩
    rw [hL] at HR HTR hlen HVV ⊢
    have HLL := hid hL
    clear hL
    obtain ⟨N, hN⟩ : ∃ N, L.length = N := ⟨_, rfl⟩
    rw [hN] at HR hlen ⊢
    have HN := hid hN
    clear hN
    go_wp2_with fail
    go_loopw [9, 10, 25] (fun a b i wr => ∃ k : Nat, k ≤ N ∧ i = .int .i64 k ∧ a = .bool ((L.take k).all fun t => !hitsB s t x y false) ∧ b = .bool ((L.take k).all fun t => !hitsB s t x y true) ∧ Below w1.heap.size w1 wr) (fun _ _ i _ => N - (intOf i).toNat)
    case atStart => exact ⟨0, by omega, rfl, by simp, by simp, Below.refl _ _⟩
    case round =>
      obtain ⟨k, hk, rfl, rfl, rfl, hb⟩ := hrel
      have HBr := hid (HB.step1 hb)
      have HBB := hid hb
      by_cases hlt : k < N
      · obtain ⟨t, ht, b1, o1, rfl, hlt1, hc⟩ := (HR.out.below hb).at hlt
        have c0 : wr.cell? ⟨b1, o1 + k * 4, none⟩ = some (.int .i64 t.a) := hc 0 _ rfl
        have c1 : wr.cell? ⟨b1, o1 + k * 4 + 1, none⟩ = some (.int .i64 t.b) := hc 1 _ rfl
        have c2 : wr.cell? ⟨b1, o1 + k * 4 + 2, none⟩ = some (.int .i64 t.half) := hc 2 _ rfl
        have c3 : wr.cell? ⟨b1, o1 + k * 4 + 3, none⟩ = some (.int .i64 t.peak) := hc 3 _ rfl
        have HT := hid (HTR.out t (List.mem_of_getElem? ht))
        have HF1 := hid (all_take (fun t => !hitsB s t x y false) ht)
        have HF2 := hid (all_take (fun t => !hitsB s t x y true) ht)
        clear ht hc hb
        obtain ⟨W2, hW2⟩ : ∃ V, wr.alloc (.cells #[.int .i64 t.a, .int .i64 t.b, .int .i64 t.half, .int .i64 t.peak] 94) = V := ⟨_, rfl⟩
        have HB2 : Hid (Boxed2 w #[.int .i64 s.wide, .int .i64 s.high, .int .i64 s.fall, .int .i64 s.a.lo, .int .i64 s.a.hi, .int .i64 s.b.lo, .int .i64 s.b.hi, .int .i64 s.half.lo, .int .i64 s.half.hi, .int .i64 s.peak.lo, .int .i64 s.peak.hi, .slice p n c] 35 #[.int .i64 x.lo, .int .i64 x.hi, .int .i64 y.lo, .int .i64 y.hi] 70 W2) := by show Boxed2 _ _ _ _ _ _; rw [← hW2]; exact HBr.out.step1 ((Below.refl _ _).alloc (Nat.le_refl _) _)
        have HT2 : Hid (TruAt W2 wr.heap.size t) := by show TruAt _ _ _; rw [← hW2]; exact TruAt.of (cell_box wr _ 94)
        have HW2 : Hid (Below w1.heap.size w1 W2) := by show Below _ _ _; rw [← hW2]; exact HBB.out.alloc HBB.out.size _
        cases h1 : (L.take k).all fun t => !hitsB s t x y false
        all_goals cases h2 : (L.take k).all fun t => !hitsB s t x y true
        all_goals rw [h1] at HF1
        all_goals rw [h2] at HF2
        all_goals clear h1 h2
        · go_wp2_with fail
          go_roundw
          case rel => exact ⟨k + 1, by omega, by go_num, by rw [HF1.out]; rfl, by rw [HF2.out]; rfl, HW2.out⟩
          case measure => simp [intOf]; omega
        · have e0 := (StoAt.of (HB2.out).cell1).c0; have e1 := (StoAt.of (HB2.out).cell1).c1; have e2 := (StoAt.of (HB2.out).cell1).c2; have e3 := (StoAt.of (HB2.out).cell1).c3; have e4 := (StoAt.of (HB2.out).cell1).c4; have e5 := (StoAt.of (HB2.out).cell1).c5; have e6 := (StoAt.of (HB2.out).cell1).c6; have e7 := (StoAt.of (HB2.out).cell1).c7; have e8 := (StoAt.of (HB2.out).cell1).c8; have e9 := (StoAt.of (HB2.out).cell1).c9; have e10 := (StoAt.of (HB2.out).cell1).c10; have e11 := (StoAt.of (HB2.out).cell1).c11
          have f0 := (TruAt.c0 (HT2.out)); have f1 := (TruAt.c1 (HT2.out)); have f2 := (TruAt.c2 (HT2.out)); have f3 := (TruAt.c3 (HT2.out))
          have g0 := (RecAt.of (HB2.out).cell2).c0; have g1 := (RecAt.of (HB2.out).cell2).c1; have g2 := (RecAt.of (HB2.out).cell2).c2; have g3 := (RecAt.of (HB2.out).cell2).c3
          go_wp2_with fail
          clear hW2 c0 c1 c2 c3
          (with_reducible refine (hits_any _ _ _ _ t _ _ true _ HS.out HT.out HQ.out).mono ?_)
          rintro e v1 ⟨rfl, hb⟩
          have HC1 := hid (HB2.out.step1 hb); have HD1 := hid (HT2.out.below hb); have HE1 := hid (HW2.out.trans (hb.mono HW2.out.size))
          clear e0 e1 e2 e3 e4 e5 e6 e7 e8 e9 e10 e11 f0 f1 f2 f3 g0 g1 g2 g3 hb
          go_wp2_with fail
          go_roundw
          case rel => exact ⟨k + 1, by omega, by go_num, by rw [HF1.out]; rfl, by rw [HF2.out]; rfl, HE1.out⟩
          case measure => simp [intOf]; omega
        · have e0 := (StoAt.of (HB2.out).cell1).c0; have e1 := (StoAt.of (HB2.out).cell1).c1; have e2 := (StoAt.of (HB2.out).cell1).c2; have e3 := (StoAt.of (HB2.out).cell1).c3; have e4 := (StoAt.of (HB2.out).cell1).c4; have e5 := (StoAt.of (HB2.out).cell1).c5; have e6 := (StoAt.of (HB2.out).cell1).c6; have e7 := (StoAt.of (HB2.out).cell1).c7; have e8 := (StoAt.of (HB2.out).cell1).c8; have e9 := (StoAt.of (HB2.out).cell1).c9; have e10 := (StoAt.of (HB2.out).cell1).c10; have e11 := (StoAt.of (HB2.out).cell1).c11
          have f0 := (TruAt.c0 (HT2.out)); have f1 := (TruAt.c1 (HT2.out)); have f2 := (TruAt.c2 (HT2.out)); have f3 := (TruAt.c3 (HT2.out))
          have g0 := (RecAt.of (HB2.out).cell2).c0; have g1 := (RecAt.of (HB2.out).cell2).c1; have g2 := (RecAt.of (HB2.out).cell2).c2; have g3 := (RecAt.of (HB2.out).cell2).c3
          go_wp2_with fail
          clear hW2 c0 c1 c2 c3
          (with_reducible refine (hits_any _ _ _ _ t _ _ false _ HS.out HT.out HQ.out).mono ?_)
          rintro e v1 ⟨rfl, hb⟩
          have HC1 := hid (HB2.out.step1 hb); have HD1 := hid (HT2.out.below hb); have HE1 := hid (HW2.out.trans (hb.mono HW2.out.size))
          clear e0 e1 e2 e3 e4 e5 e6 e7 e8 e9 e10 e11 f0 f1 f2 f3 g0 g1 g2 g3 hb
          go_wp2_with fail
          go_roundw
          case rel => exact ⟨k + 1, by omega, by go_num, by rw [HF1.out]; rfl, by rw [HF2.out]; rfl, HE1.out⟩
          case measure => simp [intOf]; omega
        · have e0 := (StoAt.of (HB2.out).cell1).c0; have e1 := (StoAt.of (HB2.out).cell1).c1; have e2 := (StoAt.of (HB2.out).cell1).c2; have e3 := (StoAt.of (HB2.out).cell1).c3; have e4 := (StoAt.of (HB2.out).cell1).c4; have e5 := (StoAt.of (HB2.out).cell1).c5; have e6 := (StoAt.of (HB2.out).cell1).c6; have e7 := (StoAt.of (HB2.out).cell1).c7; have e8 := (StoAt.of (HB2.out).cell1).c8; have e9 := (StoAt.of (HB2.out).cell1).c9; have e10 := (StoAt.of (HB2.out).cell1).c10; have e11 := (StoAt.of (HB2.out).cell1).c11
          have f0 := (TruAt.c0 (HT2.out)); have f1 := (TruAt.c1 (HT2.out)); have f2 := (TruAt.c2 (HT2.out)); have f3 := (TruAt.c3 (HT2.out))
          have g0 := (RecAt.of (HB2.out).cell2).c0; have g1 := (RecAt.of (HB2.out).cell2).c1; have g2 := (RecAt.of (HB2.out).cell2).c2; have g3 := (RecAt.of (HB2.out).cell2).c3
          go_wp2_with fail
          clear hW2 c0 c1 c2 c3
          (with_reducible refine (hits_any _ _ _ _ t _ _ false _ HS.out HT.out HQ.out).mono ?_)
          rintro e v1 ⟨rfl, hb⟩
          have HC1 := hid (HB2.out.step1 hb); have HD1 := hid (HT2.out.below hb); have HE1 := hid (HW2.out.trans (hb.mono HW2.out.size))
          clear e0 e1 e2 e3 e4 e5 e6 e7 e8 e9 e10 e11 f0 f1 f2 f3 g0 g1 g2 g3 hb
          have e0 := (StoAt.of (HC1.out).cell1).c0; have e1 := (StoAt.of (HC1.out).cell1).c1; have e2 := (StoAt.of (HC1.out).cell1).c2; have e3 := (StoAt.of (HC1.out).cell1).c3; have e4 := (StoAt.of (HC1.out).cell1).c4; have e5 := (StoAt.of (HC1.out).cell1).c5; have e6 := (StoAt.of (HC1.out).cell1).c6; have e7 := (StoAt.of (HC1.out).cell1).c7; have e8 := (StoAt.of (HC1.out).cell1).c8; have e9 := (StoAt.of (HC1.out).cell1).c9; have e10 := (StoAt.of (HC1.out).cell1).c10; have e11 := (StoAt.of (HC1.out).cell1).c11
          have f0 := (TruAt.c0 (HD1.out)); have f1 := (TruAt.c1 (HD1.out)); have f2 := (TruAt.c2 (HD1.out)); have f3 := (TruAt.c3 (HD1.out))
          have g0 := (RecAt.of (HC1.out).cell2).c0; have g1 := (RecAt.of (HC1.out).cell2).c1; have g2 := (RecAt.of (HC1.out).cell2).c2; have g3 := (RecAt.of (HC1.out).cell2).c3
          go_wp2_with fail
          (with_reducible refine (hits_any _ _ _ _ t _ _ true _ HS.out HT.out HQ.out).mono ?_)
          rintro e v2 ⟨rfl, hb⟩
          have HC2 := hid (HC1.out.step1 hb); have HD2 := hid (HD1.out.below hb); have HE2 := hid (HE1.out.trans (hb.mono HE1.out.size))
          clear e0 e1 e2 e3 e4 e5 e6 e7 e8 e9 e10 e11 f0 f1 f2 f3 g0 g1 g2 g3 hb
          go_wp2_with fail
          go_roundw
          case rel => exact ⟨k + 1, by omega, by go_num, by rw [HF1.out]; rfl, by rw [HF2.out]; rfl, HE2.out⟩
          case measure => simp [intOf]; omega
      · have hkN : L.take k = L := List.take_of_length_le (by have := HN.out; omega)
        rw [hkN]
        clear hkN
        have HBW := hid (HB.step1 hb).below
        clear hb
        cases h1 : L.all fun t => !hitsB s t x y false
        · cases h2 : L.all fun t => !hitsB s t x y true
          · have HF : Hid (verdV s x y = 3) := by show _ = _; rw [HVV.out, verdT, h1, h2]; rfl
            go_wp2_with fail
            go_ret2
            exact ⟨by rw [HF.out, HE.out]; rfl, HBW.out⟩
          · have HF : Hid (verdV s x y = 2) := by show _ = _; rw [HVV.out, verdT, h1, h2]; rfl
            go_wp2_with fail
            go_ret2
            exact ⟨by rw [HF.out, HE.out]; rfl, HBW.out⟩
        · have HF : Hid (verdV s x y = 1) := by show _ = _; rw [HVV.out, verdT, h1]; rfl
          go_wp2_with fail
          go_ret2
          exact ⟨by rw [HF.out, HE.out]; rfl, HBW.out⟩
  · have hE' : (sureE s (rectB s x y) != 0) = true := by simp [hE]
    have HF : Hid (verdV s x y = 0) := by show _ = _; rw [HV.out, if_neg hE]
    have HN := hid hE
    clear hE
    go_wp2_with fail
    go_ret2
    exact ⟨by rw [HF.out]; rfl, HB.below⟩
end Go.Proofs.Ytfnefkenheglhaa
