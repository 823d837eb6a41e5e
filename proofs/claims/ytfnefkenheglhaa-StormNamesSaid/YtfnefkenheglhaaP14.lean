/- Package storm: a truth that shows that a place is hit, or is not. No condition. -/
import Derived.Test.YtfnefkenheglhaaP9
namespace Go.Proofs.Ytfnefkenheglhaa
open Go.RowKit

theorem find_at {α : Type} {f : α → Bool} : ∀ {l : List α} {k : Nat} {a : α}, l[k]? = some a → f a = true → (l.take k).all (fun a => !f a) = true → l.find? f = some a
  | [], k, a, h, _, _ => by simp at h
  | b :: l, 0, a, h, ha, _ => by
    simp at h
    subst h
    rw [List.find?_cons, ha]
  | b :: l, k + 1, a, h, ha, hb => by
    rw [List.take_succ_cons, List.all_cons, Bool.and_eq_true] at hb
    rw [List.find?_cons]
    have : f b = false := by simpa using hb.1
    rw [this]
    exact find_at (by simpa using h) ha hb.2
theorem find_no {α : Type} {f : α → Bool} {l : List α} (h : l.all (fun a => !f a) = true) : l.find? f = none := by
  rw [List.find?_eq_none]
  intro a ha
  have := List.all_eq_true.1 h a ha
  simpa using this
/-- What IndexFunc returns: the place of the first one, or -1. -/
def IndexPost (f : Tru → Bool) (L : List Tru) (w : World) : Ending → World → Prop := fun e w' =>
  ∃ j : Int, e = .returned (.int .i64 j) ∧ ((∃ (k : Nat) (t : Tru), j = k ∧ L[k]? = some t ∧ L.find? f = some t) ∨ (j = -1 ∧ L.find? f = none)) ∧ Below w.heap.size w w'

set_option maxRecDepth 40000 in
set_option maxHeartbeats 4000000 in
theorem index108_any (f : Tru → Bool) (q : Option Addr) (N d b0 b1 b2 : Nat) (L : List Tru) (w : World) (hR : RowsAt cellsT 4 w q N L) (hN : N ≤ 100000)
    (hf : ∀ t, t ∈ L → ∀ W, Below w.heap.size w W → Calls Try.prog 109 #[.agg #[.int .i64 t.a, .int .i64 t.b, .int .i64 t.half, .int .i64 t.peak], .pointer (some ⟨b0, 0, none⟩), .pointer (some ⟨b1, 0, none⟩), .pointer (some ⟨b2, 0, none⟩)] W fun e w' => e = .returned (.bool (f t)) ∧ Below W.heap.size W w') :
    Calls Try.prog 108 #[.slice q N d, .func (.func 109) #[] #[.pointer (some ⟨b0, 0, none⟩), .pointer (some ⟨b1, 0, none⟩), .pointer (some ⟨b2, 0, none⟩)]] w (IndexPost f L w) := by
  have HR := hid hR
  have HF := hid hf
  have hlen := hid hR.1
  clear hR hf
  go_enter Try.func108, Try.ntmps108
  go_wp2_with fail
  go_loopw [8] (fun i wr => ∃ k : Nat, k ≤ N ∧ i = .int .i64 k ∧ (L.take k).all (fun t => !f t) = true ∧ Below w.heap.size w wr) (fun i _ => N - (intOf i).toNat)
  case atStart => exact ⟨0, by omega, rfl, by simp, Below.refl _ _⟩
  case round =>
    obtain ⟨k, hk, rfl, ha, hb⟩ := hrel
    have HA := hid ha; have HB := hid hb
    by_cases hlt : k < N
    · obtain ⟨t, ht, g1, o1, rfl, hlt1, hc⟩ := (HR.out.below hb).at hlt
      have c0 : wr.cell? ⟨g1, o1 + k * 4, none⟩ = some (.int .i64 t.a) := hc 0 _ rfl
      have c1 : wr.cell? ⟨g1, o1 + k * 4 + 1, none⟩ = some (.int .i64 t.b) := hc 1 _ rfl
      have c2 : wr.cell? ⟨g1, o1 + k * 4 + 2, none⟩ = some (.int .i64 t.half) := hc 2 _ rfl
      have c3 : wr.cell? ⟨g1, o1 + k * 4 + 3, none⟩ = some (.int .i64 t.peak) := hc 3 _ rfl
      have HFT := hid (HF.out t (List.mem_of_getElem? ht))
      have HT := hid ht
      clear hc ht ha hb
      go_wp2_with fail
      (with_reducible refine (HFT.out _ HB.out).mono ?_)
      rintro e w2 ⟨rfl, hb2⟩
      have HB2 := hid (HB.out.trans (hb2.mono HB.out.size))
      cases hft : f t
      · have HFF := hid hft
        clear hft hb2
        go_wp2_with fail
        go_roundw
        case rel => exact ⟨k + 1, by omega, by go_num, by rw [all_take (fun t => !f t) HT.out, HA.out, HFF.out]; rfl, HB2.out⟩
        case measure => simp [intOf]; omega
      · have HFF := hid hft
        clear hft hb2
        go_wp2_with fail
        go_ret
        exact ⟨k, rfl, .inl ⟨k, t, rfl, HT.out, find_at HT.out HFF.out HA.out⟩, HB2.out⟩
    · have hkN : L.take k = L := List.take_of_length_le (by have := hlen.out; omega)
      rw [hkN] at ha
      have HA2 := hid ha
      clear hkN ha hb
      go_wp2_with fail
      go_ret
      exact ⟨-1, rfl, .inr ⟨rfl, find_no HA2.out⟩, HB.out⟩

set_option maxRecDepth 40000 in
set_option maxHeartbeats 4000000 in
theorem show109_any (s : Sto) (p : Option Addr) (n c b0 b1 b2 : Nat) (x y : Rng) (inn : Bool) (t : Tru) (w : World) (hs : StoAt w b0 s p n c) (hr : RecAt w b1 x y) (hi : w.cell? ⟨b2, 0, none⟩ = some (.bool inn)) (hsm : SmallS s) (ht : SmallT t) (hq : SmallQ x y) :
    Calls Try.prog 109 #[.agg #[.int .i64 t.a, .int .i64 t.b, .int .i64 t.half, .int .i64 t.peak], .pointer (some ⟨b0, 0, none⟩), .pointer (some ⟨b1, 0, none⟩), .pointer (some ⟨b2, 0, none⟩)] w fun e w' => e = .returned (.bool (hitsB s t x y inn)) ∧ Below w.heap.size w w' := by
  have HH := hid (fun W => hits_any s p n c t x y inn W hsm ht hq)
  obtain ⟨W1, hW1⟩ : ∃ V, w.alloc (.cells #[.int .i64 t.a, .int .i64 t.b, .int .i64 t.half, .int .i64 t.peak] 94) = V := ⟨_, rfl⟩
  have hba : Below w.heap.size w W1 := by rw [← hW1]; exact (Below.refl _ _).alloc (Nat.le_refl _) _
  have HT1 : Hid (TruAt W1 w.heap.size t) := by show TruAt _ _ _; rw [← hW1]; exact TruAt.of (cell_box w _ 94)
  have hs := hs.below hba; have hr := hr.below hba; have hi := (hba.cell (p := ⟨b2, 0, none⟩) (World.block_lt_of_cell? _ _ hi)).trans hi
  have HBA := hid hba
  clear hsm ht hq hba
  have e0 := hs.c0; have e1 := hs.c1; have e2 := hs.c2; have e3 := hs.c3; have e4 := hs.c4; have e5 := hs.c5; have e6 := hs.c6; have e7 := hs.c7; have e8 := hs.c8; have e9 := hs.c9; have e10 := hs.c10; have e11 := hs.c11
  have f0 := hr.c0; have f1 := hr.c1; have f2 := hr.c2; have f3 := hr.c3
  have g0 := HT1.out.c0; have g1 := HT1.out.c1; have g2 := HT1.out.c2; have g3 := HT1.out.c3
  go_enter Try.func109, Try.ntmps109
  go_wp2_with fail
  (with_reducible refine (HH.out _).mono ?_)
  rintro e w1 ⟨rfl, hb⟩
  go_wp2_with fail
  go_ret
  exact ⟨rfl, HBA.out.trans (hb.mono HBA.out.size)⟩

def zeroT : Tru := ⟨0, 0, 0, 0⟩
def showV (s : Sto) (x y : Rng) (inn : Bool) : Tru := if sureE s (rectB s x y) = 0 then ((truthL s).find? fun t => hitsB s t x y inn).getD zeroT else zeroT
def showE (s : Sto) (x y : Rng) (inn : Bool) : Int := if sureE s (rectB s x y) = 0 then (match (truthL s).find? fun t => hitsB s t x y inn with | some _ => 0 | none => 7) else sureE s (rectB s x y)

/-- The boxes of Show. -/
structure ShBox (w : World) (s : Sto) (p : Option Addr) (n c : Nat) (x y : Rng) (inn : Bool) (V : World) : Prop where
  b : Boxed2 w #[.int .i64 s.wide, .int .i64 s.high, .int .i64 s.fall, .int .i64 s.a.lo, .int .i64 s.a.hi, .int .i64 s.b.lo, .int .i64 s.b.hi, .int .i64 s.half.lo, .int .i64 s.half.hi, .int .i64 s.peak.lo, .int .i64 s.peak.hi, .slice p n c] 35 #[.int .i64 x.lo, .int .i64 x.hi, .int .i64 y.lo, .int .i64 y.hi] 70 V
  i : V.cell? ⟨w.heap.size + 2, 0, none⟩ = some (.bool inn)
  r : BoxIs (w.heap.size + 3) #[.int .i64 0, .int .i64 0, .int .i64 0, .int .i64 0] V
theorem ShBox.step {w V V' : World} {s : Sto} {p : Option Addr} {n c : Nat} {x y : Rng} {inn : Bool} (h : ShBox w s p n c x y inn V) (hb : Below V.heap.size V V') : ShBox w s p n c x y inn V' :=
  ⟨h.b.step1 hb, (hb.cell (p := ⟨w.heap.size + 2, 0, none⟩) (World.block_lt_of_cell? _ _ h.i)).trans h.i, h.r.below hb⟩
theorem ShBox.start (w : World) (s : Sto) (p : Option Addr) (n c : Nat) (x y : Rng) (inn : Bool) : ShBox w s p n c x y inn (((((w.alloc (.cells #[.int .i64 s.wide, .int .i64 s.high, .int .i64 s.fall, .int .i64 s.a.lo, .int .i64 s.a.hi, .int .i64 s.b.lo, .int .i64 s.b.hi, .int .i64 s.half.lo, .int .i64 s.half.hi, .int .i64 s.peak.lo, .int .i64 s.peak.hi, .slice p n c] 35)).alloc (.cells #[.int .i64 x.lo, .int .i64 x.hi, .int .i64 y.lo, .int .i64 y.hi] 70)).alloc (.cells #[.bool inn] 4)).alloc (.cells #[.int .i64 0, .int .i64 0, .int .i64 0, .int .i64 0] 94))) := by
  have hi := cell_box ((w.alloc (.cells #[.int .i64 s.wide, .int .i64 s.high, .int .i64 s.fall, .int .i64 s.a.lo, .int .i64 s.a.hi, .int .i64 s.b.lo, .int .i64 s.b.hi, .int .i64 s.half.lo, .int .i64 s.half.hi, .int .i64 s.peak.lo, .int .i64 s.peak.hi, .slice p n c] 35)).alloc (.cells #[.int .i64 x.lo, .int .i64 x.hi, .int .i64 y.lo, .int .i64 y.hi] 70)) #[.bool inn] 4 0 _ rfl
  have hr := BoxIs.start (((w.alloc (.cells #[.int .i64 s.wide, .int .i64 s.high, .int .i64 s.fall, .int .i64 s.a.lo, .int .i64 s.a.hi, .int .i64 s.b.lo, .int .i64 s.b.hi, .int .i64 s.half.lo, .int .i64 s.half.hi, .int .i64 s.peak.lo, .int .i64 s.peak.hi, .slice p n c] 35)).alloc (.cells #[.int .i64 x.lo, .int .i64 x.hi, .int .i64 y.lo, .int .i64 y.hi] 70)).alloc (.cells #[.bool inn] 4)) #[.int .i64 0, .int .i64 0, .int .i64 0, .int .i64 0] 94
  simp only [World.size_alloc] at hi hr
  refine ⟨((Below.refl _ _).alloc (by simp) _).alloc (by simp) _, ?_, hr⟩
  exact (((Below.refl _ _).alloc (Nat.le_refl _) _ : Below (((w.alloc (.cells #[.int .i64 s.wide, .int .i64 s.high, .int .i64 s.fall, .int .i64 s.a.lo, .int .i64 s.a.hi, .int .i64 s.b.lo, .int .i64 s.b.hi, .int .i64 s.half.lo, .int .i64 s.half.hi, .int .i64 s.peak.lo, .int .i64 s.peak.hi, .slice p n c] 35)).alloc (.cells #[.int .i64 x.lo, .int .i64 x.hi, .int .i64 y.lo, .int .i64 y.hi] 70)).alloc (.cells #[.bool inn] 4)).heap.size _ _).cell (p := ⟨w.heap.size + 2, 0, none⟩) (by simp)).trans hi

set_option maxRecDepth 40000 in
set_option maxHeartbeats 4000000 in
theorem show_any (s : Sto) (p : Option Addr) (n c : Nat) (x y : Rng) (inn : Bool) (w : World) (hcs : CrdsAt w p n s.cards) :
    Calls Try.prog 64 #[.agg #[.int .i64 s.wide, .int .i64 s.high, .int .i64 s.fall, .int .i64 s.a.lo, .int .i64 s.a.hi, .int .i64 s.b.lo, .int .i64 s.b.hi, .int .i64 s.half.lo, .int .i64 s.half.hi, .int .i64 s.peak.lo, .int .i64 s.peak.hi, .slice p n c], .agg #[.int .i64 x.lo, .int .i64 x.hi, .int .i64 y.lo, .int .i64 y.hi], .bool inn] w fun e w' => e = .returned (.tuple #[.agg #[.int .i64 (showV s x y inn).a, .int .i64 (showV s x y inn).b, .int .i64 (showV s x y inn).half, .int .i64 (showV s x y inn).peak], .int .i64 (showE s x y inn)]) ∧ Below w.heap.size w w' := by
  have hmf : ∀ (fn : Fn) (first cap : Array Value) (w : World), (Instr.makeFunc fn first cap).run Try.prog w = .ok (.func fn first cap) w := fun _ _ _ _ => rfl
  have HA := hid (fun W (hB : ShBox w s p n c x y inn W) => asked107_any s p n c w.heap.size (w.heap.size + 1) (rectB s x y) W (hcs.below hB.b.below) (fun h0 W' hW' => rectF107_any s p n c _ _ x y W' ((StoAt.of hB.b.cell1).below hW') ((RecAt.of hB.b.cell2).below hW') (fault_iff.1 h0)))
  clear hcs
  have HV := hid (show showV s x y inn = if sureE s (rectB s x y) = 0 then ((truthL s).find? fun t => hitsB s t x y inn).getD zeroT else zeroT from rfl)
  have HVE := hid (show showE s x y inn = if sureE s (rectB s x y) = 0 then (match (truthL s).find? fun t => hitsB s t x y inn with | some _ => 0 | none => 7) else sureE s (rectB s x y) from rfl)
  have hst := ShBox.start w s p n c x y inn
  obtain ⟨W0, hW0⟩ : ∃ W, ((((w.alloc (.cells #[.int .i64 s.wide, .int .i64 s.high, .int .i64 s.fall, .int .i64 s.a.lo, .int .i64 s.a.hi, .int .i64 s.b.lo, .int .i64 s.b.hi, .int .i64 s.half.lo, .int .i64 s.half.hi, .int .i64 s.peak.lo, .int .i64 s.peak.hi, .slice p n c] 35)).alloc (.cells #[.int .i64 x.lo, .int .i64 x.hi, .int .i64 y.lo, .int .i64 y.hi] 70)).alloc (.cells #[.bool inn] 4)).alloc (.cells #[.int .i64 0, .int .i64 0, .int .i64 0, .int .i64 0] 94)) = W := ⟨_, rfl⟩
  rw [hW0] at hst
  have HB0 := hid hst
  clear hst
  have e0 := (StoAt.of HB0.out.b.cell1).c0; have e1 := (StoAt.of HB0.out.b.cell1).c1; have e2 := (StoAt.of HB0.out.b.cell1).c2; have e3 := (StoAt.of HB0.out.b.cell1).c3; have e4 := (StoAt.of HB0.out.b.cell1).c4; have e5 := (StoAt.of HB0.out.b.cell1).c5; have e6 := (StoAt.of HB0.out.b.cell1).c6; have e7 := (StoAt.of HB0.out.b.cell1).c7; have e8 := (StoAt.of HB0.out.b.cell1).c8; have e9 := (StoAt.of HB0.out.b.cell1).c9; have e10 := (StoAt.of HB0.out.b.cell1).c10; have e11 := (StoAt.of HB0.out.b.cell1).c11
  go_enter Try.func64, Try.ntmps64
  go_wp2_with fail
  refine (HA.out _ HB0.out).mono ?_
  rintro e w1 ⟨pw, v, rfl, hown, hb⟩
  have HB := hid (HB0.out.step hb)
  obtain ⟨p', c', rfl, hrow⟩ := hown.slice cellsT_len
  have HR := hid hrow
  clear hown hrow hb hW0 e0 e1 e2 e3 e4 e5 e6 e7 e8 e9 e10 e11
  by_cases hE : sureE s (rectB s x y) = 0
  · obtain ⟨ok, hre, hne⟩ := sure_ok hE
    have HQ := hid (ok.smallQ hre)
    have HS := hid ok.small
    have HTR := hid (fun t (ht : t ∈ truthL s) => ok.smallT (mem_poss.1 (List.mem_filter.1 ht).1))
    have hlen := truth_len ok
    have HVV : Hid (showV s x y inn = ((truthL s).find? fun t => hitsB s t x y inn).getD zeroT) := by show _ = _; rw [HV.out, if_pos hE]
    have HVF : Hid (showE s x y inn = (match (truthL s).find? fun t => hitsB s t x y inn with | some _ => 0 | none => 7)) := by show _ = _; rw [HVE.out, if_pos hE]
    have hl : sureL s (rectB s x y) = truthL s := by rw [sureL, if_pos hE]
    rw [hl] at HR ⊢
    rw [hE]
    clear hE ok hre hne hl HV HVE
    obtain ⟨L, hL⟩ : ∃ L, truthL s = L := ⟨_, rfl⟩
    rw [hL] at HR HTR hlen HVV HVF ⊢
    obtain ⟨N, hN⟩ : ∃ N, L.length = N := ⟨_, rfl⟩
    rw [hN] at HR hlen ⊢
    clear hL hN
    have HIX := hid (index108_any (fun t => hitsB s t x y inn) p' N c' w.heap.size (w.heap.size + 1) (w.heap.size + 2) L w1 HR.out (by omega) (fun t ht W hW => show109_any s p n c _ _ _ x y inn t W (StoAt.of (HB.out.step hW).b.cell1) (RecAt.of (HB.out.step hW).b.cell2) (HB.out.step hW).i HS.out (HTR.out t ht) HQ.out))
    go_wp2_with fail
    refine HIX.out.mono ?_
    rintro e w2 ⟨j, rfl, hj, hb⟩
    have HB2 := hid (HB.out.step hb)
    have HR2 := hid (HR.out.below hb)
    clear hb hmf
    rcases hj with ⟨k, t, rfl, hk, hf⟩ | ⟨rfl, hf⟩
    · have HW1 : Hid (showV s x y inn = t) := by show _ = _; rw [HVV.out, hf]; rfl
      have HW2 : Hid (showE s x y inn = 0) := by show _ = _; rw [HVF.out, hf]
      have hkN : k < N := by have := (List.getElem?_eq_some_iff.1 hk).1; have := HR2.out.1; omega
      obtain ⟨t', ht', b1, o1, rfl, hlt1, hc⟩ := HR2.out.at hkN
      rw [hk] at ht'
      cases ht'
      have c0 : w2.cell? ⟨b1, o1 + k * 4, none⟩ = some (.int .i64 t.a) := hc 0 _ rfl
      have c1 : w2.cell? ⟨b1, o1 + k * 4 + 1, none⟩ = some (.int .i64 t.b) := hc 1 _ rfl
      have c2 : w2.cell? ⟨b1, o1 + k * 4 + 2, none⟩ = some (.int .i64 t.half) := hc 2 _ rfl
      have c3 : w2.cell? ⟨b1, o1 + k * 4 + 3, none⟩ = some (.int .i64 t.peak) := hc 3 _ rfl
      clear hc hk hf
      have k0 := (HB2.out.r.2 0 (.int .i64 0) rfl).1
      have k1 := (HB2.out.r.2 1 (.int .i64 0) rfl).1
      have k2 := (HB2.out.r.2 2 (.int .i64 0) rfl).1
      have k3 := (HB2.out.r.2 3 (.int .i64 0) rfl).1
      have m0 := (HB2.out.r.2 0 (.int .i64 0) rfl).2
      have m1 := (HB2.out.r.2 1 (.int .i64 0) rfl).2
      have m2 := (HB2.out.r.2 2 (.int .i64 0) rfl).2
      have m3 := (HB2.out.r.2 3 (.int .i64 0) rfl).2
      have HRR := hid ((((HB2.out.r.put (j := 0) (.int .i64 t.a)).put (j := 1) (.int .i64 t.b)).put (j := 2) (.int .i64 t.half)).put (j := 3) (.int .i64 t.peak))
      go_wp2_with fail
      have y0 := (HRR.out.2 0 (.int .i64 t.a) rfl).1
      have y1 := (HRR.out.2 1 (.int .i64 t.b) rfl).1
      have y2 := (HRR.out.2 2 (.int .i64 t.half) rfl).1
      have y3 := (HRR.out.2 3 (.int .i64 t.peak) rfl).1
      refine bodyPost_ret (v := .tuple #[.agg #[.int .i64 t.a, .int .i64 t.b, .int .i64 t.half, .int .i64 t.peak], .int .i64 (0)]) (by simp [results, Try.f64, go_sem, y0, y1, y2, y3]) rfl ?_
      exact ⟨by rw [HW1.out, HW2.out] <;> rfl, ((((HB2.out.b.below.setCell (p := ⟨w.heap.size + 3, 0, none⟩) (by show w.heap.size ≤ w.heap.size + 3; omega) (.int .i64 t.a)).setCell (p := ⟨w.heap.size + 3, 1, none⟩) (by show w.heap.size ≤ w.heap.size + 3; omega) (.int .i64 t.b)).setCell (p := ⟨w.heap.size + 3, 2, none⟩) (by show w.heap.size ≤ w.heap.size + 3; omega) (.int .i64 t.half)).setCell (p := ⟨w.heap.size + 3, 3, none⟩) (by show w.heap.size ≤ w.heap.size + 3; omega) (.int .i64 t.peak))⟩
    · have HW1 : Hid (showV s x y inn = zeroT) := by show _ = _; rw [HVV.out, hf]; rfl
      have HW2 : Hid (showE s x y inn = 7) := by show _ = _; rw [HVF.out, hf]
      clear hf
      have k0 := (HB2.out.r.2 0 (.int .i64 0) rfl).1
      have k1 := (HB2.out.r.2 1 (.int .i64 0) rfl).1
      have k2 := (HB2.out.r.2 2 (.int .i64 0) rfl).1
      have k3 := (HB2.out.r.2 3 (.int .i64 0) rfl).1
      have m0 := (HB2.out.r.2 0 (.int .i64 0) rfl).2
      have m1 := (HB2.out.r.2 1 (.int .i64 0) rfl).2
      have m2 := (HB2.out.r.2 2 (.int .i64 0) rfl).2
      have m3 := (HB2.out.r.2 3 (.int .i64 0) rfl).2
      have HRR := hid ((((HB2.out.r.put (j := 0) (.int .i64 0)).put (j := 1) (.int .i64 0)).put (j := 2) (.int .i64 0)).put (j := 3) (.int .i64 0))
      go_wp2_with fail
      have y0 := (HRR.out.2 0 (.int .i64 0) rfl).1
      have y1 := (HRR.out.2 1 (.int .i64 0) rfl).1
      have y2 := (HRR.out.2 2 (.int .i64 0) rfl).1
      have y3 := (HRR.out.2 3 (.int .i64 0) rfl).1
      refine bodyPost_ret (v := .tuple #[.agg #[.int .i64 0, .int .i64 0, .int .i64 0, .int .i64 0], .int .i64 (7)]) (by simp [results, Try.f64, go_sem, y0, y1, y2, y3]) rfl ?_
      exact ⟨by rw [HW1.out, HW2.out] <;> rfl, ((((HB2.out.b.below.setCell (p := ⟨w.heap.size + 3, 0, none⟩) (by show w.heap.size ≤ w.heap.size + 3; omega) (.int .i64 0)).setCell (p := ⟨w.heap.size + 3, 1, none⟩) (by show w.heap.size ≤ w.heap.size + 3; omega) (.int .i64 0)).setCell (p := ⟨w.heap.size + 3, 2, none⟩) (by show w.heap.size ≤ w.heap.size + 3; omega) (.int .i64 0)).setCell (p := ⟨w.heap.size + 3, 3, none⟩) (by show w.heap.size ≤ w.heap.size + 3; omega) (.int .i64 0))⟩
  · have hE' : (sureE s (rectB s x y) != 0) = true := by simp [hE]
    have HW1 : Hid (showV s x y inn = zeroT) := by show _ = _; rw [HV.out, if_neg hE]
    have HW2 : Hid (showE s x y inn = sureE s (rectB s x y)) := by show _ = _; rw [HVE.out, if_neg hE]
    have HN := hid hE
    clear hE
    have k0 := (HB.out.r.2 0 (.int .i64 0) rfl).1
    have k1 := (HB.out.r.2 1 (.int .i64 0) rfl).1
    have k2 := (HB.out.r.2 2 (.int .i64 0) rfl).1
    have k3 := (HB.out.r.2 3 (.int .i64 0) rfl).1
    have m0 := (HB.out.r.2 0 (.int .i64 0) rfl).2
    have m1 := (HB.out.r.2 1 (.int .i64 0) rfl).2
    have m2 := (HB.out.r.2 2 (.int .i64 0) rfl).2
    have m3 := (HB.out.r.2 3 (.int .i64 0) rfl).2
    have HRR := hid ((((HB.out.r.put (j := 0) (.int .i64 0)).put (j := 1) (.int .i64 0)).put (j := 2) (.int .i64 0)).put (j := 3) (.int .i64 0))
    go_wp2_with fail
    have y0 := (HRR.out.2 0 (.int .i64 0) rfl).1
    have y1 := (HRR.out.2 1 (.int .i64 0) rfl).1
    have y2 := (HRR.out.2 2 (.int .i64 0) rfl).1
    have y3 := (HRR.out.2 3 (.int .i64 0) rfl).1
    refine bodyPost_ret (v := .tuple #[.agg #[.int .i64 0, .int .i64 0, .int .i64 0, .int .i64 0], .int .i64 (sureE s (rectB s x y))]) (by simp [results, Try.f64, go_sem, y0, y1, y2, y3]) rfl ?_
    exact ⟨by rw [HW1.out, HW2.out] <;> rfl, ((((HB.out.b.below.setCell (p := ⟨w.heap.size + 3, 0, none⟩) (by show w.heap.size ≤ w.heap.size + 3; omega) (.int .i64 0)).setCell (p := ⟨w.heap.size + 3, 1, none⟩) (by show w.heap.size ≤ w.heap.size + 3; omega) (.int .i64 0)).setCell (p := ⟨w.heap.size + 3, 2, none⟩) (by show w.heap.size ≤ w.heap.size + 3; omega) (.int .i64 0)).setCell (p := ⟨w.heap.size + 3, 3, none⟩) (by show w.heap.size ≤ w.heap.size + 3; omega) (.int .i64 0))⟩
end Go.Proofs.Ytfnefkenheglhaa
