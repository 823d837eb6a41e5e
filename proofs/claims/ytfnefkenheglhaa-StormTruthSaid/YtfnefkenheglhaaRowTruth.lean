/- StormTruth holds: it returns true, for each storm, each two words and each list of words, whatever the memory; its arguments read as before. -/
import Derived.Test.YtfnefkenheglhaaTruY
import Derived.Test.YtfnefkenheglhaaP13
import Derived.Test.YtfnefkenheglhaaLawC
import Derived.Test.YtfnefkenheglhaaLawAwake
import Derived.Deep.MidRow
import Derived.Test.YtfnefkenheglhaaOpn
namespace Go.Proofs.Ytfnefkenheglhaa
section
open Go.RowKit

theorem near_setCells (b : Nat) : ∀ (vs : List Value) (o : Nat) (w : World), Near (fun i => i = b) w (w.setCells b o vs)
  | [], _, w => Near.refl _ w
  | v :: vs, o, w => by
    show Near _ w ((w.setCell ⟨b, o, none⟩ v).setCells b (o + 1) vs)
    exact ((Near.refl (fun i => i = b) w).setCell (p := ⟨b, o, none⟩) (fun _ => rfl) v).trans' (near_setCells b vs (o + 1) _) (fun _ _ h => h)
theorem BoxIs.there {b : Nat} {vs : Array Value} {W : World} (h : BoxIs b vs W) : W.there b 0 vs.size := fun j hj => by
  have h1 := h.2 j vs[j] (Array.getElem?_eq_getElem hj)
  rw [Nat.zero_add]
  exact ⟨by rw [h1.1]; rfl, h1.2⟩
theorem BoxIs.stored {b : Nat} {vs cs : Array Value} {W : World} (h : BoxIs b vs W) (hs : vs.size = cs.size) : BoxIs b cs (W.setCells b 0 cs.toList) := by
  have ht : W.there b 0 cs.toList.length := by rw [Array.length_toList, ← hs]; exact h.there
  have hn := near_setCells b cs.toList 0 W
  refine ⟨Nat.lt_of_lt_of_le h.1 hn.size, fun k v hk => ⟨?_, ?_⟩⟩
  · have h1 := World.rangeAt_setCells_same W b 0 cs.toList ht k v (by simpa using hk)
    rwa [Nat.zero_add] at h1
  · have h1 := (World.there_setCells ht b 0 cs.toList) k (by have := (Array.getElem?_eq_some_iff.1 hk).1; simpa using this)
    rw [Nat.zero_add] at h1
    exact h1.2
/-- A struct is stored into its box: at a plain region's list. -/
theorem store_box {ops : Array Oper} {rest : List Oper} {op : Oper} {a : Act} {w : World} {Q : Exit → Act → World → Prop} (hgd : op.guard = none) (ty : TypeId) (x y : Operand) (ho : op.op = .store ty x y)
    (b : Nat) (vs cells : Array Value) (hx : a.eval x = .pointer (some ⟨b, 0, none⟩)) (hy : a.eval y = .agg cells)
    (hb : BoxIs b vs w) (n : Nat) (hv : vs.size = n) (hc : cells.size = n) (hi : (Try.prog.info? ty).map (·.size) = some n) (h1 : cells.all (·.oneCell') = true)
    (h : ∀ w', BoxIs b cells w' → Near (fun i => i = b) w w' → wpList Try.prog ops Q rest (a.put op.dst undef) w') : wpList Try.prog ops Q (op :: rest) a w :=
  wpList_store_mid hgd ty x y ho b 0 cells hx hy (by rw [hc, ← hv]; exact hb.there) (by rw [hc]; exact hi) h1 (h _ (hb.stored (hv.trans hc.symm)) (near_setCells b cells.toList 0 w))
theorem BoxIs.far {b : Nat} {vs : Array Value} {W W' : World} {S : Nat → Prop} (h : BoxIs b vs W) (hn : Near S W W') (hS : ¬ S b) : BoxIs b vs W' :=
  ⟨Nat.lt_of_lt_of_le h.1 hn.size, fun k v hk => ⟨(hn.cell (p := ⟨b, k, none⟩) h.1 hS).trans (h.2 k v hk).1, (hn.frozen (p := ⟨b, k, none⟩) h.1 hS).trans (h.2 k v hk).2⟩⟩
theorem carded_ok {s : Sto} (ok : OkS s) {t : Tru} (ht : truB s t = true) (l : List Int) : OkS (cardedS s t l) := by
  have hl : (cardsW s t l (wordV l 0 % 7).toNat).length ≤ 6 := by
    simp only [cardsW, List.length_map, List.length_range]
    have := Int.emod_lt_of_pos (wordV l 0) (show (0 : Int) < 7 by decide)
    omega
  refine ⟨ok.w2, ok.w12, ok.h1, ok.h12, ok.f0, ok.f4, ok.a, ok.b, ok.half, ok.peak, hl, ?_, ok.many⟩
  rw [List.all_eq_true]
  intro c hc
  obtain ⟨i, _, rfl⟩ := List.mem_map.1 (show c ∈ cardsW s t l _ from hc)
  exact (cardW_ok ok ht _).1
theorem carded_mem {s : Sto} (ok : OkS s) {t : Tru} (ht : truB s t = true) (l : List Int) : t ∈ truthL (cardedS s t l) := by
  rw [mem_truth, mem_poss]
  refine ⟨ht, ?_⟩
  rw [List.all_eq_true]
  intro c hc
  obtain ⟨i, _, rfl⟩ := List.mem_map.1 (show c ∈ cardsW s t l _ from hc)
  exact (cardW_ok ok ht _).2

set_option maxRecDepth 40000 in
set_option maxHeartbeats 16000000 in
theorem in62_any (n : Int) (r : Rng) (w : World) : Calls Try.prog 62 #[.int .i64 n, .agg #[.int .i64 r.lo, .int .i64 r.hi]] w fun e w' => e = .returned (.bool (inB n r.lo r.hi)) ∧ Below w.heap.size w w' := by
  by_cases h1 : r.lo ≤ n
  · by_cases h2 : n ≤ r.hi
    · have HI : Hid (inB n r.lo r.hi = true) := hid (inB_iff.2 ⟨h1, h2⟩)
      go_enter Try.func62, Try.ntmps62
      go_wp2_with fail
      go_ret
      exact ⟨by rw [HI.out]; rfl, (Below.refl _ _).alloc (Nat.le_refl _) _⟩
    · have HI : Hid (inB n r.lo r.hi = false) := hid (by rw [← Bool.not_eq_true, inB_iff]; omega)
      go_enter Try.func62, Try.ntmps62
      go_wp2_with fail
      go_ret
      exact ⟨by rw [HI.out]; rfl, (Below.refl _ _).alloc (Nat.le_refl _) _⟩
  · have HI : Hid (inB n r.lo r.hi = false) := hid (by rw [← Bool.not_eq_true, inB_iff]; omega)
    go_enter Try.func62, Try.ntmps62
    go_wp2_with fail
    go_ret
    exact ⟨by rw [HI.out]; rfl, (Below.refl _ _).alloc (Nat.le_refl _) _⟩

set_option maxRecDepth 40000 in
set_option maxHeartbeats 16000000 in
theorem stormTruth_any (s : Sto) (p : Option Addr) (n c : Nat) (wh : Int) (q0 : Option Addr) (m0 ec : Nat) (l : List Int) (wv : Int) (w : World) (hcs : CrdsAt w p n s.cards) (hwh : 0 ≤ wh ∧ wh ≤ 65535) (hl : WordsAt w q0 m0 l) (hwv : 0 ≤ wv ∧ wv ≤ 65535) :
    Calls Try.prog 14 #[.agg #[.int .i64 s.wide, .int .i64 s.high, .int .i64 s.fall, .int .i64 s.a.lo, .int .i64 s.a.hi, .int .i64 s.b.lo, .int .i64 s.b.hi, .int .i64 s.half.lo, .int .i64 s.half.hi, .int .i64 s.peak.lo, .int .i64 s.peak.hi, .slice p n c], .int .u16 wh, .slice q0 m0 ec, .int .u16 wv] w fun e w' => e = .returned (.bool true) ∧ Below w.heap.size w w' := by
  have HC := hid hcs; have HLW := hid hl
  have HRD := hid (fun W (hb : Below w.heap.size w W) => ready_any s p n c W (hcs.below hb))
  have HWV := hid hwv; have HWH := hid hwh
  clear hcs hl hwv hwh
  have H0 : Hid (Boxed1 w #[.int .i64 s.wide, .int .i64 s.high, .int .i64 s.fall, .int .i64 s.a.lo, .int .i64 s.a.hi, .int .i64 s.b.lo, .int .i64 s.b.hi, .int .i64 s.half.lo, .int .i64 s.half.hi, .int .i64 s.peak.lo, .int .i64 s.peak.hi, .slice p n c] 26 (w.alloc (.cells #[.int .i64 s.wide, .int .i64 s.high, .int .i64 s.fall, .int .i64 s.a.lo, .int .i64 s.a.hi, .int .i64 s.b.lo, .int .i64 s.b.hi, .int .i64 s.half.lo, .int .i64 s.half.hi, .int .i64 s.peak.lo, .int .i64 s.peak.hi, .slice p n c] 26))) := Boxed1.start _ _ _
  go_enter Try.func14, Try.ntmps14
  go_wp2_with fail
  (with_reducible refine (HRD.out _ ?_).mono ?_)
  · exact H0.out.below
  rintro e w1 ⟨rfl, hb⟩
  have H1 := hid (H0.out.step hb)
  clear hb
  cases hrd : readyB s
  · clear hrd
    go_wp2_with fail
    refine (awake_any _).mono ?_
    rintro e w99 ⟨rfl, hb⟩
    go_wp2_with fail
    go_ret
    exact ⟨rfl, H1.out.below.trans (hb.mono H1.out.below.size)⟩
  · have HOK := hid (ready_iff.1 hrd).1
    have hn6 : n ≤ 6 := by have := HC.out.1; have := HOK.out.n6; omega
    clear hrd
    have e0 := (StoAt.of H1.out.cell).c0; have e1 := (StoAt.of H1.out.cell).c1; have e2 := (StoAt.of H1.out.cell).c2; have e3 := (StoAt.of H1.out.cell).c3; have e4 := (StoAt.of H1.out.cell).c4; have e5 := (StoAt.of H1.out.cell).c5; have e6 := (StoAt.of H1.out.cell).c6; have e7 := (StoAt.of H1.out.cell).c7; have e8 := (StoAt.of H1.out.cell).c8; have e9 := (StoAt.of H1.out.cell).c9; have e10 := (StoAt.of H1.out.cell).c10; have e11 := (StoAt.of H1.out.cell).c11
    go_wp2_with fail
    refine (carded_any s p n c wh q0 m0 ec l _ (HC.out.below H1.out.below) (HLW.out.below H1.out.below) HOK.out HWH.out).mono ?_
    rintro e w2 ⟨q, m, d, rfl, hc, hb⟩
    have H2 := hid (H1.out.step hb)
    have HKX := hid hc
    clear e0 e1 e2 e3 e4 e5 e6 e7 e8 e9 e10 e11 hb hc
    obtain ⟨t, ht⟩ : ∃ t, nthS s (wh % manyS s) = t := ⟨_, rfl⟩
    have HTB : Hid (truB s t = true) := hid (by rw [← ht]; have hmp : 0 < manyS s := Int.mul_pos (Int.mul_pos (Int.mul_pos HOK.out.pos.a HOK.out.pos.b) HOK.out.pos.half) HOK.out.pos.peak; exact (num_nth HOK.out.pos (Int.emod_nonneg _ (by omega)) (Int.emod_lt_of_pos _ hmp)).1)
    rw [ht] at HKX ⊢
    clear ht
    have HOX := hid (carded_ok HOK.out HTB.out l); have HMT := hid (carded_mem HOK.out HTB.out l)
    have HGE := hid (show (cardedS s t l).wide = s.wide ∧ (cardedS s t l).high = s.high from ⟨rfl, rfl⟩)
    obtain ⟨x, hx⟩ : ∃ x, cardedS s t l = x := ⟨_, rfl⟩
    rw [hx] at HKX HOX HMT HGE ⊢
    clear hx
    have HMX : Hid (m ≤ 1000) := hid (by have := HKX.out.1; have := HOX.out.n6; omega)
    obtain ⟨wz, hwz⟩ : ∃ V, ((w2.alloc (.cells #[.int .i64 0, .int .i64 0, .int .i64 0, .int .i64 0, .int .i64 0, .int .i64 0, .int .i64 0, .int .i64 0, .int .i64 0, .int .i64 0, .int .i64 0, .slice none 0 0] 26)).alloc (.cells #[.int .i64 0, .int .i64 0, .int .i64 0, .int .i64 0] 92)) = V := ⟨_, rfl⟩
    have HWZ : Hid (Boxed1 w #[.int .i64 s.wide, .int .i64 s.high, .int .i64 s.fall, .int .i64 s.a.lo, .int .i64 s.a.hi, .int .i64 s.b.lo, .int .i64 s.b.hi, .int .i64 s.half.lo, .int .i64 s.half.hi, .int .i64 s.peak.lo, .int .i64 s.peak.hi, .slice p n c] 26 wz) := by show Boxed1 w #[.int .i64 s.wide, .int .i64 s.high, .int .i64 s.fall, .int .i64 s.a.lo, .int .i64 s.a.hi, .int .i64 s.b.lo, .int .i64 s.b.hi, .int .i64 s.half.lo, .int .i64 s.half.hi, .int .i64 s.peak.lo, .int .i64 s.peak.hi, .slice p n c] 26 wz; rw [← hwz]; exact (H2.out.alloc _).alloc _
    have HZ9 : Hid (BoxIs w2.heap.size #[.int .i64 0, .int .i64 0, .int .i64 0, .int .i64 0, .int .i64 0, .int .i64 0, .int .i64 0, .int .i64 0, .int .i64 0, .int .i64 0, .int .i64 0, .slice none 0 0] wz) := by show BoxIs _ _ _; rw [← hwz]; exact (BoxIs.start _ _ _).below ((Below.refl _ _).alloc (Nat.le_refl _) _)
    have HZ10 : Hid (BoxIs (w2.heap.size + 1) #[.int .i64 0, .int .i64 0, .int .i64 0, .int .i64 0] wz) := by
      show BoxIs _ _ _
      have h := BoxIs.start (w2.alloc (.cells #[.int .i64 0, .int .i64 0, .int .i64 0, .int .i64 0, .int .i64 0, .int .i64 0, .int .i64 0, .int .i64 0, .int .i64 0, .int .i64 0, .int .i64 0, .slice none 0 0] 26)) #[.int .i64 0, .int .i64 0, .int .i64 0, .int .i64 0] 92
      simp only [World.size_alloc] at h
      rw [hwz] at h
      exact h
    have HBZ : Hid (Below w2.heap.size w2 wz) := hid (by rw [← hwz]; exact ((Below.refl _ _).alloc (Nat.le_refl _) _).alloc (by simp) _)
    have HLK := hid H2.out.size
    go_upto_region 4 with (first | (refine store_box (by rfl) 26 (.tmp 9) (.tmp 35) (by rfl) _ #[.int .i64 0, .int .i64 0, .int .i64 0, .int .i64 0, .int .i64 0, .int .i64 0, .int .i64 0, .int .i64 0, .int .i64 0, .int .i64 0, .int .i64 0, .slice none 0 0] #[.int .i64 x.wide, .int .i64 x.high, .int .i64 x.fall, .int .i64 x.a.lo, .int .i64 x.a.hi, .int .i64 x.b.lo, .int .i64 x.b.hi, .int .i64 x.half.lo, .int .i64 x.half.hi, .int .i64 x.peak.lo, .int .i64 x.peak.hi, .slice q m d] (by rfl) (by rfl) HZ9.out 12 rfl rfl (by kernel_rfl) (by simp [Value.oneCell']) ?_; intro w3 hx3 hn3; have HX3 := hid hx3; have HN3 := hid hn3; clear hx3 hn3; have HZ3 := hid (HZ10.out.far HN3.out (by omega))) | (refine store_box (by rfl) 92 (.tmp 10) (.tmp 36) (by rfl) _ #[.int .i64 0, .int .i64 0, .int .i64 0, .int .i64 0] #[.int .i64 t.a, .int .i64 t.b, .int .i64 t.half, .int .i64 t.peak] (by rfl) (by rfl) HZ3.out 4 rfl rfl (by kernel_rfl) (by simp [Value.oneCell']) ?_; intro w4 hx4 hn4; have HT := hid hx4; have HN4 := hid hn4; clear hx4 hn4))
    clear hwz
    have HBC : Hid (Below w2.heap.size wz w4) := hid (((HN3.out.mono (T := fun i => i = w2.heap.size ∨ i = (w2.heap.size + 1)) fun i _ h => .inl h).trans (HN4.out.mono fun i _ h => .inr h)).below HBZ.out.size (fun i hi hs => by rcases hs with hs | hs <;> omega))
    have HX := hid (HX3.out.far HN4.out (by omega))
    have HW20 : Hid (Boxed1 w #[.int .i64 s.wide, .int .i64 s.high, .int .i64 s.fall, .int .i64 s.a.lo, .int .i64 s.a.hi, .int .i64 s.b.lo, .int .i64 s.b.hi, .int .i64 s.half.lo, .int .i64 s.half.hi, .int .i64 s.peak.lo, .int .i64 s.peak.hi, .slice p n c] 26 w4) := hid (HWZ.out.step' (HBC.out.mono HLK.out))
    replace HKX := hid (HKX.out.below (HBZ.out.trans HBC.out))
    clear HZ9 HZ10 HBC HWZ HBZ HX3 HN3 HN4 HZ3
    generalize w4 = w20 at HX HT HW20 HKX ⊢
    have H20 := HW20
    have e0 := (HX.out.2 0 (.int .i64 x.wide) rfl).1; have e1 := (HX.out.2 1 (.int .i64 x.high) rfl).1; have e2 := (HX.out.2 2 (.int .i64 x.fall) rfl).1; have e3 := (HX.out.2 3 (.int .i64 x.a.lo) rfl).1; have e4 := (HX.out.2 4 (.int .i64 x.a.hi) rfl).1; have e5 := (HX.out.2 5 (.int .i64 x.b.lo) rfl).1; have e6 := (HX.out.2 6 (.int .i64 x.b.hi) rfl).1; have e7 := (HX.out.2 7 (.int .i64 x.half.lo) rfl).1; have e8 := (HX.out.2 8 (.int .i64 x.half.hi) rfl).1; have e9 := (HX.out.2 9 (.int .i64 x.peak.lo) rfl).1; have e10 := (HX.out.2 10 (.int .i64 x.peak.hi) rfl).1; have e11 := (HX.out.2 11 (.slice q m d) rfl).1
    go_wp2_with fail
    (with_reducible refine (box_any x q m d wv _ HOX.out HWV.out.1 HWV.out.2).mono ?_)
    rintro e w21 ⟨rfl, hb⟩
    have H21 := hid (H20.out.step hb)
    replace HX := hid (HX.out.below hb)
    replace HT := hid (HT.out.below hb)
    replace HKX := hid (HKX.out.below hb)
    clear hb e0 e1 e2 e3 e4 e5 e6 e7 e8 e9 e10 e11
    have HRC := hid (box_in HOX.out HWV.out.1)
    obtain ⟨bx, hbx⟩ : ∃ v, boxX x wv = v := ⟨_, rfl⟩
    obtain ⟨bY, hby⟩ : ∃ v, boxY x wv = v := ⟨_, rfl⟩
    rw [hbx, hby] at HRC
    rw [hbx, hby]
    clear hbx hby
    obtain ⟨w22, hw22⟩ : ∃ V, (w21.alloc (.cells #[.int .i64 bx.lo, .int .i64 bx.hi, .int .i64 bY.lo, .int .i64 bY.hi] 64)) = V := ⟨_, rfl⟩
    have H22 : Hid (Boxed1 w #[.int .i64 s.wide, .int .i64 s.high, .int .i64 s.fall, .int .i64 s.a.lo, .int .i64 s.a.hi, .int .i64 s.b.lo, .int .i64 s.b.hi, .int .i64 s.half.lo, .int .i64 s.half.hi, .int .i64 s.peak.lo, .int .i64 s.peak.hi, .slice p n c] 26 w22) := by show Boxed1 w #[.int .i64 s.wide, .int .i64 s.high, .int .i64 s.fall, .int .i64 s.a.lo, .int .i64 s.a.hi, .int .i64 s.b.lo, .int .i64 s.b.hi, .int .i64 s.half.lo, .int .i64 s.half.hi, .int .i64 s.peak.lo, .int .i64 s.peak.hi, .slice p n c] 26 w22; rw [← hw22]; exact H21.out.alloc _
    have HR : Hid (BoxIs w21.heap.size #[.int .i64 bx.lo, .int .i64 bx.hi, .int .i64 bY.lo, .int .i64 bY.hi] w22) := by show BoxIs _ _ _; rw [← hw22]; exact BoxIs.start _ _ _
    have HBB : Hid (Below w21.heap.size w21 w22) := hid (by rw [← hw22]; exact (Below.refl _ _).alloc (Nat.le_refl _) _)
    replace HX := hid (HX.out.below HBB.out)
    replace HT := hid (HT.out.below HBB.out)
    replace HKX := hid (HKX.out.below HBB.out)
    go_upto_region 5 with fail
    clear hw22 HBB 
    have q1 := HOX.out.w2; have q2 := HOX.out.w12; have q3 := HOX.out.h1; have q4 := HOX.out.h12
    have HRB : Hid ((0 ≤ bx.lo ∧ bx.lo ≤ bx.hi ∧ bx.hi ≤ x.wide - 1) ∧ (0 ≤ bY.lo ∧ bY.lo ≤ bY.hi ∧ bY.hi ≤ x.high - 1)) := hid (by have h := HRC.out; rw [rectB, Bool.and_eq_true, Rng.of_iff, Rng.of_iff] at h; exact h)
    have HSQ : Hid (SmallQ bx bY) := hid (by have := HRB.out; constructor <;> omega)
    have HFN : Hid (fineS x bx.lo bY.lo = true) := hid (by have h := HRB.out; rw [fineS, Bool.and_eq_true, inB_iff, inB_iff]; omega)
    have HF0 := hid (fault_iff.2 HOX.out)
    have HES := hid (one_sure HOX.out HMT.out)
    have HST := hid (HOX.out.smallT (mem_poss.1 (mem_truth.1 HMT.out).1))
    have HSS := hid HOX.out.small
    have HE1 : Hid (sureE x (rectB x bx bY) = 0) := hid (by rw [HRC.out]; exact HES.out)
    have HE3 : Hid (sureE x (fineS x bx.lo bY.lo) = 0) := hid (by rw [HFN.out]; exact HES.out)
    have HCE : Hid (clashE x = 7) := hid (by rw [clashE, if_pos HF0.out, one_clash HOX.out HMT.out]; rfl)
    have HFE : Hid (firstE x = 7) := hid (by rw [firstE, if_pos HF0.out, if_pos (one_first HOX.out HMT.out)])
    have HLV := hid (one_leave HOX.out HMT.out)
    have HPR : Hid (provedB x t = true) := hid (by unfold provedB; rw [HF0.out, mem_poss.1 (mem_truth.1 HMT.out).1, (mem_truth.1 HMT.out).2]; rfl)
    have e0 := (HX.out.2 0 (.int .i64 x.wide) rfl).1; have e1 := (HX.out.2 1 (.int .i64 x.high) rfl).1; have e2 := (HX.out.2 2 (.int .i64 x.fall) rfl).1; have e3 := (HX.out.2 3 (.int .i64 x.a.lo) rfl).1; have e4 := (HX.out.2 4 (.int .i64 x.a.hi) rfl).1; have e5 := (HX.out.2 5 (.int .i64 x.b.lo) rfl).1; have e6 := (HX.out.2 6 (.int .i64 x.b.hi) rfl).1; have e7 := (HX.out.2 7 (.int .i64 x.half.lo) rfl).1; have e8 := (HX.out.2 8 (.int .i64 x.half.hi) rfl).1; have e9 := (HX.out.2 9 (.int .i64 x.peak.lo) rfl).1; have e10 := (HX.out.2 10 (.int .i64 x.peak.hi) rfl).1; have e11 := (HX.out.2 11 (.slice q m d) rfl).1
    go_wp2_with fail
    refine (storm20_any x q m d _ HKX.out HMX.out).mono ?_
    rintro e w23 ⟨q1, m1, d1, rfl, hc, hb⟩
    have H23 := hid (H22.out.step hb)
    replace HX := hid (HX.out.below hb)
    replace HT := hid (HT.out.below hb)
    replace HKX := hid (HKX.out.below hb)
    replace HR := hid (HR.out.below hb)
    have HK1 := hid hc
    clear hb hc e0 e1 e2 e3 e4 e5 e6 e7 e8 e9 e10 e11
    go_wp2_with fail
    refine (leave_any x q1 m1 d1 _ HK1.out).mono ?_
    rintro e w24 ⟨ql, kl, dl, rfl, _, hx, hb⟩
    have H24 := hid (H23.out.step hb)
    replace HX := hid (HX.out.below hb)
    replace HT := hid (HT.out.below hb)
    replace HKX := hid (HKX.out.below hb)
    replace HR := hid (HR.out.below hb)
    replace HK1 := hid (HK1.out.below hb)
    have hkl : kl = 0 := (hx HF0.out _ HLV.out).1
    rw [HF0.out, hkl]
    clear hb hx hkl
    have e0 := (HX.out.2 0 (.int .i64 x.wide) rfl).1; have e1 := (HX.out.2 1 (.int .i64 x.high) rfl).1; have e2 := (HX.out.2 2 (.int .i64 x.fall) rfl).1; have e3 := (HX.out.2 3 (.int .i64 x.a.lo) rfl).1; have e4 := (HX.out.2 4 (.int .i64 x.a.hi) rfl).1; have e5 := (HX.out.2 5 (.int .i64 x.b.lo) rfl).1; have e6 := (HX.out.2 6 (.int .i64 x.b.hi) rfl).1; have e7 := (HX.out.2 7 (.int .i64 x.half.lo) rfl).1; have e8 := (HX.out.2 8 (.int .i64 x.half.hi) rfl).1; have e9 := (HX.out.2 9 (.int .i64 x.peak.lo) rfl).1; have e10 := (HX.out.2 10 (.int .i64 x.peak.hi) rfl).1; have e11 := (HX.out.2 11 (.slice q m d) rfl).1
    go_wp2_with fail
    refine (storm20_any x q m d _ HKX.out HMX.out).mono ?_
    rintro e w25 ⟨q2, m2, d2, rfl, hc, hb⟩
    have H25 := hid (H24.out.step hb)
    replace HX := hid (HX.out.below hb)
    replace HT := hid (HT.out.below hb)
    replace HKX := hid (HKX.out.below hb)
    replace HR := hid (HR.out.below hb)
    have HK2 := hid hc
    clear hb hc e0 e1 e2 e3 e4 e5 e6 e7 e8 e9 e10 e11
    go_wp2_with fail
    refine (clashP_any x q2 m2 d2 _ HK2.out).mono ?_
    rintro e w26 ⟨qc, kc, dc, rfl, _, _, hb⟩
    have H26 := hid (H25.out.step hb)
    replace HX := hid (HX.out.below hb)
    replace HT := hid (HT.out.below hb)
    replace HKX := hid (HKX.out.below hb)
    replace HR := hid (HR.out.below hb)
    replace HK2 := hid (HK2.out.below hb)
    rw [HCE.out]
    clear hb
    have e0 := (HX.out.2 0 (.int .i64 x.wide) rfl).1; have e1 := (HX.out.2 1 (.int .i64 x.high) rfl).1; have e2 := (HX.out.2 2 (.int .i64 x.fall) rfl).1; have e3 := (HX.out.2 3 (.int .i64 x.a.lo) rfl).1; have e4 := (HX.out.2 4 (.int .i64 x.a.hi) rfl).1; have e5 := (HX.out.2 5 (.int .i64 x.b.lo) rfl).1; have e6 := (HX.out.2 6 (.int .i64 x.b.hi) rfl).1; have e7 := (HX.out.2 7 (.int .i64 x.half.lo) rfl).1; have e8 := (HX.out.2 8 (.int .i64 x.half.hi) rfl).1; have e9 := (HX.out.2 9 (.int .i64 x.peak.lo) rfl).1; have e10 := (HX.out.2 10 (.int .i64 x.peak.hi) rfl).1; have e11 := (HX.out.2 11 (.slice q m d) rfl).1
    go_wp2_with fail
    refine (storm20_any x q m d _ HKX.out HMX.out).mono ?_
    rintro e w27 ⟨q3, m3, d3, rfl, hc, hb⟩
    have H27 := hid (H26.out.step hb)
    replace HX := hid (HX.out.below hb)
    replace HT := hid (HT.out.below hb)
    replace HKX := hid (HKX.out.below hb)
    replace HR := hid (HR.out.below hb)
    have HK3 := hid hc
    clear hb hc e0 e1 e2 e3 e4 e5 e6 e7 e8 e9 e10 e11
    go_wp2_with fail
    refine (first_any x q3 m3 d3 _ HK3.out).mono ?_
    rintro e w28 ⟨rfl, hb⟩
    have H28 := hid (H27.out.step hb)
    replace HX := hid (HX.out.below hb)
    replace HT := hid (HT.out.below hb)
    replace HKX := hid (HKX.out.below hb)
    replace HR := hid (HR.out.below hb)
    replace HK3 := hid (HK3.out.below hb)
    rw [HFE.out]
    obtain ⟨F1, hF1⟩ : ∃ v, firstV x = v := ⟨_, rfl⟩
    rw [hF1]
    clear hF1
    clear hb
    have e0 := (HX.out.2 0 (.int .i64 x.wide) rfl).1; have e1 := (HX.out.2 1 (.int .i64 x.high) rfl).1; have e2 := (HX.out.2 2 (.int .i64 x.fall) rfl).1; have e3 := (HX.out.2 3 (.int .i64 x.a.lo) rfl).1; have e4 := (HX.out.2 4 (.int .i64 x.a.hi) rfl).1; have e5 := (HX.out.2 5 (.int .i64 x.b.lo) rfl).1; have e6 := (HX.out.2 6 (.int .i64 x.b.hi) rfl).1; have e7 := (HX.out.2 7 (.int .i64 x.half.lo) rfl).1; have e8 := (HX.out.2 8 (.int .i64 x.half.hi) rfl).1; have e9 := (HX.out.2 9 (.int .i64 x.peak.lo) rfl).1; have e10 := (HX.out.2 10 (.int .i64 x.peak.hi) rfl).1; have e11 := (HX.out.2 11 (.slice q m d) rfl).1
    go_wp2_with fail
    refine (storm20_any x q m d _ HKX.out HMX.out).mono ?_
    rintro e w29 ⟨q4, m4, d4, rfl, hc, hb⟩
    have H29 := hid (H28.out.step hb)
    replace HX := hid (HX.out.below hb)
    replace HT := hid (HT.out.below hb)
    replace HKX := hid (HKX.out.below hb)
    replace HR := hid (HR.out.below hb)
    have HK4 := hid hc
    clear hb hc e0 e1 e2 e3 e4 e5 e6 e7 e8 e9 e10 e11
    obtain ⟨bS, hbS⟩ : ∃ v, boundS x = v := ⟨_, rfl⟩
    have HBS := hid hbS
    clear hbS
    go_wp2_with fail
    refine (bounds_any x q4 m4 d4 _ HK4.out).mono ?_
    rintro e w30 ⟨qb, mb, db, rfl, _, hb⟩
    have H30 := hid (H29.out.step hb)
    replace HX := hid (HX.out.below hb)
    replace HT := hid (HT.out.below hb)
    replace HKX := hid (HKX.out.below hb)
    replace HR := hid (HR.out.below hb)
    replace HK4 := hid (HK4.out.below hb)
    rw [HBS.out, HES.out]
    clear hb
    obtain ⟨w31, hw31⟩ : ∃ V, (w30.alloc (.cells #[.int .i64 bS.wide, .int .i64 bS.high, .int .i64 bS.fall, .int .i64 bS.a.lo, .int .i64 bS.a.hi, .int .i64 bS.b.lo, .int .i64 bS.b.hi, .int .i64 bS.half.lo, .int .i64 bS.half.hi, .int .i64 bS.peak.lo, .int .i64 bS.peak.hi, .slice qb mb db] 35)) = V := ⟨_, rfl⟩
    have H31 : Hid (Boxed1 w #[.int .i64 s.wide, .int .i64 s.high, .int .i64 s.fall, .int .i64 s.a.lo, .int .i64 s.a.hi, .int .i64 s.b.lo, .int .i64 s.b.hi, .int .i64 s.half.lo, .int .i64 s.half.hi, .int .i64 s.peak.lo, .int .i64 s.peak.hi, .slice p n c] 26 w31) := by show Boxed1 w #[.int .i64 s.wide, .int .i64 s.high, .int .i64 s.fall, .int .i64 s.a.lo, .int .i64 s.a.hi, .int .i64 s.b.lo, .int .i64 s.b.hi, .int .i64 s.half.lo, .int .i64 s.half.hi, .int .i64 s.peak.lo, .int .i64 s.peak.hi, .slice p n c] 26 w31; rw [← hw31]; exact H30.out.alloc _
    have HB : Hid (BoxIs w30.heap.size #[.int .i64 bS.wide, .int .i64 bS.high, .int .i64 bS.fall, .int .i64 bS.a.lo, .int .i64 bS.a.hi, .int .i64 bS.b.lo, .int .i64 bS.b.hi, .int .i64 bS.half.lo, .int .i64 bS.half.hi, .int .i64 bS.peak.lo, .int .i64 bS.peak.hi, .slice qb mb db] w31) := by show BoxIs _ _ _; rw [← hw31]; exact BoxIs.start _ _ _
    have HBB : Hid (Below w30.heap.size w30 w31) := hid (by rw [← hw31]; exact (Below.refl _ _).alloc (Nat.le_refl _) _)
    replace HX := hid (HX.out.below HBB.out)
    replace HT := hid (HT.out.below HBB.out)
    replace HKX := hid (HKX.out.below HBB.out)
    replace HR := hid (HR.out.below HBB.out)
    go_upto_region 9 with fail
    clear hw31 HBB 
    obtain ⟨V, hV⟩ : ∃ v, verdV x bx bY = v := ⟨_, rfl⟩
    have HV := hid hV
    obtain ⟨R, hR⟩ : ∃ v, sizesV x bx.lo bY.lo = v := ⟨_, rfl⟩
    have HRR := hid hR
    clear hV hR
    refine wp_region_held_drew (S := fun V => Boxed1 w #[.int .i64 s.wide, .int .i64 s.high, .int .i64 s.fall, .int .i64 s.a.lo, .int .i64 s.a.hi, .int .i64 s.b.lo, .int .i64 s.b.hi, .int .i64 s.half.lo, .int .i64 s.half.hi, .int .i64 s.peak.lo, .int .i64 s.peak.hi, .slice p n c] 26 V ∧ Below w31.heap.size w31 V) (by kernel_rfl) (⟨H31.out.drew, (Below.refl _ _).drew⟩) (fun hS => ?_)
    simp only [List.size_toArray, List.length_cons, List.length_nil, Nat.reduceAdd, Array.replicate_succ, Array.replicate_zero, List.push_toArray, List.nil_append, List.cons_append]
    refine tkH (i := 0) (v := ?_) (fun V hV => ?_) ?_
    rotate_left
    · have hX := HX.out.below hV.2; have e0 := (hX.2 0 (.int .i64 x.wide) rfl).1; have e1 := (hX.2 1 (.int .i64 x.high) rfl).1; have e2 := (hX.2 2 (.int .i64 x.fall) rfl).1; have e3 := (hX.2 3 (.int .i64 x.a.lo) rfl).1; have e4 := (hX.2 4 (.int .i64 x.a.hi) rfl).1; have e5 := (hX.2 5 (.int .i64 x.b.lo) rfl).1; have e6 := (hX.2 6 (.int .i64 x.b.hi) rfl).1; have e7 := (hX.2 7 (.int .i64 x.half.lo) rfl).1; have e8 := (hX.2 8 (.int .i64 x.half.hi) rfl).1; have e9 := (hX.2 9 (.int .i64 x.peak.lo) rfl).1; have e10 := (hX.2 10 (.int .i64 x.peak.hi) rfl).1; have e11 := (hX.2 11 (.slice q m d) rfl).1; go_simp
      try with_reducible rfl
    try simp only [Act.put, List.getElem_toArray, List.getElem_cons_zero, List.setIfInBounds_toArray, List.set_cons_zero, List.set_cons_succ]
    refine tkH (i := 2) (v := ?_) (fun V hV => ?_) ?_
    rotate_left
    · have hX := HR.out.below hV.2; have d0 := (hX.2 0 (.int .i64 bx.lo) rfl).1; have d1 := (hX.2 1 (.int .i64 bx.hi) rfl).1; have d2 := (hX.2 2 (.int .i64 bY.lo) rfl).1; have d3 := (hX.2 3 (.int .i64 bY.hi) rfl).1; go_simp
      try with_reducible rfl
    try simp only [Act.put, List.getElem_toArray, List.getElem_cons_zero, List.getElem_cons_succ, List.setIfInBounds_toArray, List.set_cons_zero, List.set_cons_succ]
    refine wpAnyH_ready (rs := [1]) (by kernel_rfl) (by simp) ?_
    refine AllReadyH.cons (o := _) rfl (fun K hK => ?_) AllReadyH.nil
    go_simp
    refine (storm20_any x q m d _ (HKX.out.below hS.2) HMX.out).mono ?_
    rintro e s1 ⟨q8, m8, d8, rfl, hc8, hb⟩
    have HQ8 := hid hc8
    clear hc8
    refine hK.out _ _ (⟨hS.1.step hb, hS.2.trans (hb.mono hS.2.size)⟩) (fun hS => ?_)
    clear hK K
    try simp only [List.setIfInBounds_toArray, List.set_cons_zero, List.set_cons_succ]
    refine wpAnyH_ready (rs := [3]) (by kernel_rfl) (by simp) ?_
    refine AllReadyH.cons (o := _) rfl (fun K hK => ?_) AllReadyH.nil
    go_simp
    (with_reducible refine (rect40_any bx bY _).mono ?_)
    rintro e s3 ⟨rfl, hb⟩
    replace HQ8 := hid (HQ8.out.below hb)
    refine hK.out _ _ (⟨hS.1.step hb, hS.2.trans (hb.mono hS.2.size)⟩) (fun hS => ?_)
    clear hK K
    try simp only [List.setIfInBounds_toArray, List.set_cons_zero, List.set_cons_succ]
    refine wpAnyH_ready (rs := [4]) (by kernel_rfl) (by simp) ?_
    refine AllReadyH.cons (o := _) rfl (fun K hK => ?_) AllReadyH.nil
    go_simp
    refine (verdict_any x q8 m8 d8 bx bY _ HQ8.out).mono ?_
    rintro e w32 ⟨rfl, hb⟩
    rw [HV.out, HE1.out]
    refine hK.out _ _ (⟨hS.1.step hb, hS.2.trans (hb.mono hS.2.size)⟩) (fun hS => ?_)
    clear hK K
    try simp only [List.setIfInBounds_toArray, List.set_cons_zero, List.set_cons_succ]
    refine tkH (i := 5) (v := ?_) (fun V hV => ?_) ?_
    rotate_left
    · go_simp
      try with_reducible rfl
    try simp only [Act.put, List.getElem_toArray, List.getElem_cons_zero, List.getElem_cons_succ, List.setIfInBounds_toArray, List.set_cons_zero, List.set_cons_succ]
    refine tkH (i := 6) (v := ?_) (fun V hV => ?_) ?_
    rotate_left
    · go_simp
      try with_reducible rfl
    try simp only [Act.put, List.getElem_toArray, List.getElem_cons_zero, List.getElem_cons_succ, List.setIfInBounds_toArray, List.set_cons_zero, List.set_cons_succ]
    refine tkH (i := 7) (v := ?_) (fun V hV => ?_) ?_
    rotate_left
    · go_simp
      try with_reducible rfl
    try simp only [Act.put, List.getElem_toArray, List.getElem_cons_zero, List.getElem_cons_succ, List.setIfInBounds_toArray, List.set_cons_zero, List.set_cons_succ]
    refine tkH (i := 8) (v := ?_) (fun V hV => ?_) ?_
    rotate_left
    · go_simp
      try with_reducible rfl
    try simp only [Act.put, List.getElem_toArray, List.getElem_cons_zero, List.getElem_cons_succ, List.setIfInBounds_toArray, List.set_cons_zero, List.set_cons_succ]
    refine tkH (i := 9) (v := ?_) (fun V hV => ?_) ?_
    rotate_left
    · go_simp
      try with_reducible rfl
    try simp only [Act.put, List.getElem_toArray, List.getElem_cons_zero, List.getElem_cons_succ, List.setIfInBounds_toArray, List.set_cons_zero, List.set_cons_succ]
    refine wpAnyH_done (by kernel_rfl) ?_ _
    have H32 := hid hS.1
    replace HX := hid (HX.out.below hS.2)
    replace HT := hid (HT.out.below hS.2)
    replace HKX := hid (HKX.out.below hS.2)
    replace HR := hid (HR.out.below hS.2)
    replace HB := hid (HB.out.below hS.2)
    clear hS
    go_upto_region 10 with fail
    go_cut [22, 23] from 26 (fun a9 c9 wr => ∃ bt, a9 = .pointer (some ⟨bt, 0, none⟩) ∧ c9 = .int .i64 0 ∧ BoxIs bt #[.int .i64 R.lo, .int .i64 R.hi] wr ∧ Boxed1 w #[.int .i64 s.wide, .int .i64 s.high, .int .i64 s.fall, .int .i64 s.a.lo, .int .i64 s.a.hi, .int .i64 s.b.lo, .int .i64 s.b.hi, .int .i64 s.half.lo, .int .i64 s.half.hi, .int .i64 s.peak.lo, .int .i64 s.peak.hi, .slice p n c] 26 wr ∧ Below w32.heap.size w32 wr)
    case first =>
      obtain ⟨wd, hwd⟩ : ∃ V, w32.drew = V := ⟨_, rfl⟩
      have HD := hid H32.out.drew
      replace HX := hid (HX.out.below (Below.refl _ _).drew)
      replace HT := hid (HT.out.below (Below.refl _ _).drew)
      replace HKX := hid (HKX.out.below (Below.refl _ _).drew)
      replace HR := hid (HR.out.below (Below.refl _ _).drew)
      replace HB := hid (HB.out.below (Below.refl _ _).drew)
      rw [hwd] at HD HX HT HKX HR HB
      have HWD : Hid (Below w32.heap.size w32 wd) := hid (by rw [← hwd]; exact (Below.refl _ _).drew)
      refine wp_region_held_drew (S := fun V => Boxed1 w #[.int .i64 s.wide, .int .i64 s.high, .int .i64 s.fall, .int .i64 s.a.lo, .int .i64 s.a.hi, .int .i64 s.b.lo, .int .i64 s.b.hi, .int .i64 s.half.lo, .int .i64 s.half.hi, .int .i64 s.peak.lo, .int .i64 s.peak.hi, .slice p n c] 26 V ∧ Below wd.heap.size wd V) (by kernel_rfl) (by rw [hwd]; exact ⟨HD.out, Below.refl _ _⟩) (fun hS => ?_)
      rw [hwd] at hS ⊢
      clear hwd
      simp only [List.size_toArray, List.length_cons, List.length_nil, Nat.reduceAdd, Array.replicate_succ, Array.replicate_zero, List.push_toArray, List.nil_append, List.cons_append]
      refine tkH (i := 0) (v := ?_) (fun V hV => ?_) ?_
      rotate_left
      · have hX := HX.out.below hV.2; have e0 := (hX.2 0 (.int .i64 x.wide) rfl).1; have e1 := (hX.2 1 (.int .i64 x.high) rfl).1; have e2 := (hX.2 2 (.int .i64 x.fall) rfl).1; have e3 := (hX.2 3 (.int .i64 x.a.lo) rfl).1; have e4 := (hX.2 4 (.int .i64 x.a.hi) rfl).1; have e5 := (hX.2 5 (.int .i64 x.b.lo) rfl).1; have e6 := (hX.2 6 (.int .i64 x.b.hi) rfl).1; have e7 := (hX.2 7 (.int .i64 x.half.lo) rfl).1; have e8 := (hX.2 8 (.int .i64 x.half.hi) rfl).1; have e9 := (hX.2 9 (.int .i64 x.peak.lo) rfl).1; have e10 := (hX.2 10 (.int .i64 x.peak.hi) rfl).1; have e11 := (hX.2 11 (.slice q m d) rfl).1; go_simp
        try with_reducible rfl
      try simp only [Act.put, List.getElem_toArray, List.getElem_cons_zero, List.setIfInBounds_toArray, List.set_cons_zero, List.set_cons_succ]
      refine tkH (i := 2) (v := ?_) (fun V hV => ?_) ?_
      rotate_left
      · go_simp
        try with_reducible rfl
      try simp only [Act.put, List.getElem_toArray, List.getElem_cons_zero, List.getElem_cons_succ, List.setIfInBounds_toArray, List.set_cons_zero, List.set_cons_succ]
      refine tkH (i := 3) (v := ?_) (fun V hV => ?_) ?_
      rotate_left
      · go_simp
        try with_reducible rfl
      try simp only [Act.put, List.getElem_toArray, List.getElem_cons_zero, List.getElem_cons_succ, List.setIfInBounds_toArray, List.set_cons_zero, List.set_cons_succ]
      refine tkH (i := 4) (v := ?_) (fun V hV => ?_) ?_
      rotate_left
      · have hX := HR.out.below hV.2; have d0 := (hX.2 0 (.int .i64 bx.lo) rfl).1; have d1 := (hX.2 1 (.int .i64 bx.hi) rfl).1; have d2 := (hX.2 2 (.int .i64 bY.lo) rfl).1; have d3 := (hX.2 3 (.int .i64 bY.hi) rfl).1; go_simp
        try with_reducible rfl
      try simp only [Act.put, List.getElem_toArray, List.getElem_cons_zero, List.getElem_cons_succ, List.setIfInBounds_toArray, List.set_cons_zero, List.set_cons_succ]
      refine tkH (i := 5) (v := ?_) (fun V hV => ?_) ?_
      rotate_left
      · go_simp
        try with_reducible rfl
      try simp only [Act.put, List.getElem_toArray, List.getElem_cons_zero, List.getElem_cons_succ, List.setIfInBounds_toArray, List.set_cons_zero, List.set_cons_succ]
      refine tkH (i := 6) (v := ?_) (fun V hV => ?_) ?_
      rotate_left
      · go_simp
        try with_reducible rfl
      try simp only [Act.put, List.getElem_toArray, List.getElem_cons_zero, List.getElem_cons_succ, List.setIfInBounds_toArray, List.set_cons_zero, List.set_cons_succ]
      refine tkH (i := 7) (v := ?_) (fun V hV => ?_) ?_
      rotate_left
      · have hX := HR.out.below hV.2; have d0 := (hX.2 0 (.int .i64 bx.lo) rfl).1; have d1 := (hX.2 1 (.int .i64 bx.hi) rfl).1; have d2 := (hX.2 2 (.int .i64 bY.lo) rfl).1; have d3 := (hX.2 3 (.int .i64 bY.hi) rfl).1; go_simp
        try with_reducible rfl
      try simp only [Act.put, List.getElem_toArray, List.getElem_cons_zero, List.getElem_cons_succ, List.setIfInBounds_toArray, List.set_cons_zero, List.set_cons_succ]
      refine wpAnyH_ready (rs := [1, 12]) (by kernel_rfl) (by simp) ?_
      refine AllReadyH.cons (o := _) rfl (fun K hK => ?_) ?_
      · skip
        go_simp
        refine (storm20_any x q m d _ (HKX.out.below hS.2) HMX.out).mono ?_
        rintro e v1 ⟨q8, m8, d8, rfl, hc8, hb⟩
        have HQ8 := hid hc8
        clear hc8
        refine hK.out _ _ (⟨hS.1.step hb, hS.2.trans (hb.mono hS.2.size)⟩) (fun hS => ?_)
        clear hK K
        try simp only [List.setIfInBounds_toArray, List.set_cons_zero, List.set_cons_succ]
        refine wpAnyH_ready (rs := [8, 12]) (by kernel_rfl) (by simp) ?_
        refine AllReadyH.cons (o := _) rfl (fun K hK => ?_) ?_
        · skip
          go_simp
          (with_reducible refine (sizes_any x q8 m8 d8 bx.lo bY.lo _ HQ8.out).mono ?_)
          rintro e v8 ⟨rfl, hb⟩
          rw [HRR.out, HE3.out]
          refine hK.out _ _ (⟨hS.1.step hb, hS.2.trans (hb.mono hS.2.size)⟩) (fun hS => ?_)
          clear hK K
          try simp only [List.setIfInBounds_toArray, List.set_cons_zero, List.set_cons_succ]
          refine tkH (i := 9) (v := ?_) (fun V hV => ?_) ?_
          rotate_left
          · go_simp
            try with_reducible rfl
          try simp only [Act.put, List.getElem_toArray, List.getElem_cons_zero, List.getElem_cons_succ, List.setIfInBounds_toArray, List.set_cons_zero, List.set_cons_succ]
          refine tkH (i := 10) (v := ?_) (fun V hV => ?_) ?_
          rotate_left
          · go_simp
            try with_reducible rfl
          try simp only [Act.put, List.getElem_toArray, List.getElem_cons_zero, List.getElem_cons_succ, List.setIfInBounds_toArray, List.set_cons_zero, List.set_cons_succ]
          refine tkH (i := 11) (v := ?_) (fun V hV => ?_) ?_
          rotate_left
          · go_simp
            try with_reducible rfl
          try simp only [Act.put, List.getElem_toArray, List.getElem_cons_zero, List.getElem_cons_succ, List.setIfInBounds_toArray, List.set_cons_zero, List.set_cons_succ]
          refine wpAnyH_ready (rs := [12]) (by kernel_rfl) (by simp) ?_
          refine AllReadyH.cons (o := _) rfl (fun K hK => ?_) AllReadyH.nil
          obtain ⟨v12, hv12⟩ : ∃ V, v8.alloc (.cells #[.int .i64 0, .int .i64 0] 29) = V := ⟨_, rfl⟩
          have hb : Below v8.heap.size v8 v12 := by rw [← hv12]; exact (Below.refl _ _).alloc (Nat.le_refl _) _
          have HN : Hid (BoxIs v8.heap.size #[.int .i64 0, .int .i64 0] v12) := by show BoxIs _ _ _; rw [← hv12]; exact BoxIs.start _ _ _
          have HL : Hid (wd.heap.size ≤ v8.heap.size) := hid hS.2.size
          go_simp
          refine hK.out _ _ (⟨hS.1.step hb, hS.2.trans (hb.mono hS.2.size)⟩) (fun hS => ?_)
          clear hK K
          try simp only [List.setIfInBounds_toArray, List.set_cons_zero, List.set_cons_succ]
          refine wpAnyH_ready (rs := [13]) (by kernel_rfl) (by simp) ?_
          refine AllReadyH.cons (o := _) rfl (fun K hK => ?_) AllReadyH.nil
          have k0 := (HN.out.2 0 (.int .i64 0) rfl).1; have f0 := (HN.out.2 0 (.int .i64 0) rfl).2
          have k1 := (HN.out.2 1 (.int .i64 0) rfl).1; have f1 := (HN.out.2 1 (.int .i64 0) rfl).2
          have HP : Hid (BoxIs v8.heap.size #[.int .i64 R.lo, .int .i64 R.hi] ((v12.setCell ⟨v8.heap.size, 0, none⟩ (.int .i64 R.lo)).setCell ⟨v8.heap.size, 1, none⟩ (.int .i64 R.hi))) := hid ((HN.out.put (j := 0) (.int .i64 R.lo)).put (j := 1) (.int .i64 R.hi))
          have HSW := hid (hS.1.step' ((((Below.refl wd.heap.size v12).setCell (p := ⟨v8.heap.size, 0, none⟩) HL.out (.int .i64 R.lo)).setCell (p := ⟨v8.heap.size, 1, none⟩) HL.out (.int .i64 R.hi)).mono (by have := HD.out.size; exact this)))
          have HSB := hid (hS.2.trans (((Below.refl wd.heap.size v12).setCell (p := ⟨v8.heap.size, 0, none⟩) HL.out (.int .i64 R.lo)).setCell (p := ⟨v8.heap.size, 1, none⟩) HL.out (.int .i64 R.hi)))
          clear hS
          go_simp
          clear k0 f0 k1 f1
          generalize ((v12.setCell ⟨v8.heap.size, 0, none⟩ (.int .i64 R.lo)).setCell ⟨v8.heap.size, 1, none⟩ (.int .i64 R.hi)) = V9 at HP HSW HSB ⊢
          replace HN := HP
          refine hK.out _ _ (⟨HSW.out, HSB.out⟩) (fun hS => ?_)
          clear hK K
          try simp only [List.setIfInBounds_toArray, List.set_cons_zero, List.set_cons_succ]
          refine tkH (i := 14) (v := ?_) (fun V hV => ?_) ?_
          rotate_left
          · go_simp
            try with_reducible rfl
          try simp only [Act.put, List.getElem_toArray, List.getElem_cons_zero, List.getElem_cons_succ, List.setIfInBounds_toArray, List.set_cons_zero, List.set_cons_succ]
          refine wpAnyH_done (by kernel_rfl) ?_ _
          go_wp2
          go_meet
          case rel => exact ⟨_, rfl, rfl, HN.out, hS.1, HWD.out.trans (hS.2.mono HWD.out.size)⟩
        refine AllReadyH.cons (o := _) rfl (fun K hK => ?_) AllReadyH.nil
        obtain ⟨v12, hv12⟩ : ∃ V, v1.alloc (.cells #[.int .i64 0, .int .i64 0] 29) = V := ⟨_, rfl⟩
        have hb : Below v1.heap.size v1 v12 := by rw [← hv12]; exact (Below.refl _ _).alloc (Nat.le_refl _) _
        have HN : Hid (BoxIs v1.heap.size #[.int .i64 0, .int .i64 0] v12) := by show BoxIs _ _ _; rw [← hv12]; exact BoxIs.start _ _ _
        have HL : Hid (wd.heap.size ≤ v1.heap.size) := hid hS.2.size
        replace HQ8 := hid (HQ8.out.below hb)
        go_simp
        refine hK.out _ _ (⟨hS.1.step hb, hS.2.trans (hb.mono hS.2.size)⟩) (fun hS => ?_)
        clear hK K
        try simp only [List.setIfInBounds_toArray, List.set_cons_zero, List.set_cons_succ]
        refine wpAnyH_ready (rs := [8]) (by kernel_rfl) (by simp) ?_
        refine AllReadyH.cons (o := _) rfl (fun K hK => ?_) AllReadyH.nil
        go_simp
        (with_reducible refine (sizes_any x q8 m8 d8 bx.lo bY.lo _ HQ8.out).mono ?_)
        rintro e v8 ⟨rfl, hb⟩
        rw [HRR.out, HE3.out]
        replace HN := hid (HN.out.below hb)
        refine hK.out _ _ (⟨hS.1.step hb, hS.2.trans (hb.mono hS.2.size)⟩) (fun hS => ?_)
        clear hK K
        try simp only [List.setIfInBounds_toArray, List.set_cons_zero, List.set_cons_succ]
        refine tkH (i := 9) (v := ?_) (fun V hV => ?_) ?_
        rotate_left
        · go_simp
          try with_reducible rfl
        try simp only [Act.put, List.getElem_toArray, List.getElem_cons_zero, List.getElem_cons_succ, List.setIfInBounds_toArray, List.set_cons_zero, List.set_cons_succ]
        refine tkH (i := 10) (v := ?_) (fun V hV => ?_) ?_
        rotate_left
        · go_simp
          try with_reducible rfl
        try simp only [Act.put, List.getElem_toArray, List.getElem_cons_zero, List.getElem_cons_succ, List.setIfInBounds_toArray, List.set_cons_zero, List.set_cons_succ]
        refine tkH (i := 11) (v := ?_) (fun V hV => ?_) ?_
        rotate_left
        · go_simp
          try with_reducible rfl
        try simp only [Act.put, List.getElem_toArray, List.getElem_cons_zero, List.getElem_cons_succ, List.setIfInBounds_toArray, List.set_cons_zero, List.set_cons_succ]
        refine wpAnyH_ready (rs := [13]) (by kernel_rfl) (by simp) ?_
        refine AllReadyH.cons (o := _) rfl (fun K hK => ?_) AllReadyH.nil
        have k0 := (HN.out.2 0 (.int .i64 0) rfl).1; have f0 := (HN.out.2 0 (.int .i64 0) rfl).2
        have k1 := (HN.out.2 1 (.int .i64 0) rfl).1; have f1 := (HN.out.2 1 (.int .i64 0) rfl).2
        have HP : Hid (BoxIs v1.heap.size #[.int .i64 R.lo, .int .i64 R.hi] ((v8.setCell ⟨v1.heap.size, 0, none⟩ (.int .i64 R.lo)).setCell ⟨v1.heap.size, 1, none⟩ (.int .i64 R.hi))) := hid ((HN.out.put (j := 0) (.int .i64 R.lo)).put (j := 1) (.int .i64 R.hi))
        have HSW := hid (hS.1.step' ((((Below.refl wd.heap.size v8).setCell (p := ⟨v1.heap.size, 0, none⟩) HL.out (.int .i64 R.lo)).setCell (p := ⟨v1.heap.size, 1, none⟩) HL.out (.int .i64 R.hi)).mono (by have := HD.out.size; exact this)))
        have HSB := hid (hS.2.trans (((Below.refl wd.heap.size v8).setCell (p := ⟨v1.heap.size, 0, none⟩) HL.out (.int .i64 R.lo)).setCell (p := ⟨v1.heap.size, 1, none⟩) HL.out (.int .i64 R.hi)))
        clear hS
        go_simp
        clear k0 f0 k1 f1
        generalize ((v8.setCell ⟨v1.heap.size, 0, none⟩ (.int .i64 R.lo)).setCell ⟨v1.heap.size, 1, none⟩ (.int .i64 R.hi)) = V9 at HP HSW HSB ⊢
        replace HN := HP
        refine hK.out _ _ (⟨HSW.out, HSB.out⟩) (fun hS => ?_)
        clear hK K
        try simp only [List.setIfInBounds_toArray, List.set_cons_zero, List.set_cons_succ]
        refine tkH (i := 14) (v := ?_) (fun V hV => ?_) ?_
        rotate_left
        · go_simp
          try with_reducible rfl
        try simp only [Act.put, List.getElem_toArray, List.getElem_cons_zero, List.getElem_cons_succ, List.setIfInBounds_toArray, List.set_cons_zero, List.set_cons_succ]
        refine wpAnyH_done (by kernel_rfl) ?_ _
        go_wp2
        go_meet
        case rel => exact ⟨_, rfl, rfl, HN.out, hS.1, HWD.out.trans (hS.2.mono HWD.out.size)⟩
      refine AllReadyH.cons (o := _) rfl (fun K hK => ?_) AllReadyH.nil
      obtain ⟨v12, hv12⟩ : ∃ V, wd.alloc (.cells #[.int .i64 0, .int .i64 0] 29) = V := ⟨_, rfl⟩
      have hb : Below wd.heap.size wd v12 := by rw [← hv12]; exact (Below.refl _ _).alloc (Nat.le_refl _) _
      have HN : Hid (BoxIs wd.heap.size #[.int .i64 0, .int .i64 0] v12) := by show BoxIs _ _ _; rw [← hv12]; exact BoxIs.start _ _ _
      have HL : Hid (wd.heap.size ≤ wd.heap.size) := hid hS.2.size
      go_simp
      refine hK.out _ _ (⟨hS.1.step hb, hS.2.trans (hb.mono hS.2.size)⟩) (fun hS => ?_)
      clear hK K
      try simp only [List.setIfInBounds_toArray, List.set_cons_zero, List.set_cons_succ]
      refine wpAnyH_ready (rs := [1]) (by kernel_rfl) (by simp) ?_
      refine AllReadyH.cons (o := _) rfl (fun K hK => ?_) AllReadyH.nil
      go_simp
      refine (storm20_any x q m d _ (HKX.out.below hS.2) HMX.out).mono ?_
      rintro e v1 ⟨q8, m8, d8, rfl, hc8, hb⟩
      have HQ8 := hid hc8
      clear hc8
      replace HN := hid (HN.out.below hb)
      refine hK.out _ _ (⟨hS.1.step hb, hS.2.trans (hb.mono hS.2.size)⟩) (fun hS => ?_)
      clear hK K
      try simp only [List.setIfInBounds_toArray, List.set_cons_zero, List.set_cons_succ]
      refine wpAnyH_ready (rs := [8]) (by kernel_rfl) (by simp) ?_
      refine AllReadyH.cons (o := _) rfl (fun K hK => ?_) AllReadyH.nil
      go_simp
      (with_reducible refine (sizes_any x q8 m8 d8 bx.lo bY.lo _ HQ8.out).mono ?_)
      rintro e v8 ⟨rfl, hb⟩
      rw [HRR.out, HE3.out]
      replace HN := hid (HN.out.below hb)
      refine hK.out _ _ (⟨hS.1.step hb, hS.2.trans (hb.mono hS.2.size)⟩) (fun hS => ?_)
      clear hK K
      try simp only [List.setIfInBounds_toArray, List.set_cons_zero, List.set_cons_succ]
      refine tkH (i := 9) (v := ?_) (fun V hV => ?_) ?_
      rotate_left
      · go_simp
        try with_reducible rfl
      try simp only [Act.put, List.getElem_toArray, List.getElem_cons_zero, List.getElem_cons_succ, List.setIfInBounds_toArray, List.set_cons_zero, List.set_cons_succ]
      refine tkH (i := 10) (v := ?_) (fun V hV => ?_) ?_
      rotate_left
      · go_simp
        try with_reducible rfl
      try simp only [Act.put, List.getElem_toArray, List.getElem_cons_zero, List.getElem_cons_succ, List.setIfInBounds_toArray, List.set_cons_zero, List.set_cons_succ]
      refine tkH (i := 11) (v := ?_) (fun V hV => ?_) ?_
      rotate_left
      · go_simp
        try with_reducible rfl
      try simp only [Act.put, List.getElem_toArray, List.getElem_cons_zero, List.getElem_cons_succ, List.setIfInBounds_toArray, List.set_cons_zero, List.set_cons_succ]
      refine wpAnyH_ready (rs := [13]) (by kernel_rfl) (by simp) ?_
      refine AllReadyH.cons (o := _) rfl (fun K hK => ?_) AllReadyH.nil
      have k0 := (HN.out.2 0 (.int .i64 0) rfl).1; have f0 := (HN.out.2 0 (.int .i64 0) rfl).2
      have k1 := (HN.out.2 1 (.int .i64 0) rfl).1; have f1 := (HN.out.2 1 (.int .i64 0) rfl).2
      have HP : Hid (BoxIs wd.heap.size #[.int .i64 R.lo, .int .i64 R.hi] ((v8.setCell ⟨wd.heap.size, 0, none⟩ (.int .i64 R.lo)).setCell ⟨wd.heap.size, 1, none⟩ (.int .i64 R.hi))) := hid ((HN.out.put (j := 0) (.int .i64 R.lo)).put (j := 1) (.int .i64 R.hi))
      have HSW := hid (hS.1.step' ((((Below.refl wd.heap.size v8).setCell (p := ⟨wd.heap.size, 0, none⟩) HL.out (.int .i64 R.lo)).setCell (p := ⟨wd.heap.size, 1, none⟩) HL.out (.int .i64 R.hi)).mono (by have := HD.out.size; exact this)))
      have HSB := hid (hS.2.trans (((Below.refl wd.heap.size v8).setCell (p := ⟨wd.heap.size, 0, none⟩) HL.out (.int .i64 R.lo)).setCell (p := ⟨wd.heap.size, 1, none⟩) HL.out (.int .i64 R.hi)))
      clear hS
      go_simp
      clear k0 f0 k1 f1
      generalize ((v8.setCell ⟨wd.heap.size, 0, none⟩ (.int .i64 R.lo)).setCell ⟨wd.heap.size, 1, none⟩ (.int .i64 R.hi)) = V9 at HP HSW HSB ⊢
      replace HN := HP
      refine hK.out _ _ (⟨HSW.out, HSB.out⟩) (fun hS => ?_)
      clear hK K
      try simp only [List.setIfInBounds_toArray, List.set_cons_zero, List.set_cons_succ]
      refine tkH (i := 14) (v := ?_) (fun V hV => ?_) ?_
      rotate_left
      · go_simp
        try with_reducible rfl
      try simp only [Act.put, List.getElem_toArray, List.getElem_cons_zero, List.getElem_cons_succ, List.setIfInBounds_toArray, List.set_cons_zero, List.set_cons_succ]
      refine wpAnyH_done (by kernel_rfl) ?_ _
      go_wp2
      go_meet
      case rel => exact ⟨_, rfl, rfl, HN.out, hS.1, HWD.out.trans (hS.2.mono HWD.out.size)⟩
    case rest =>
      as_aux_lemma =>
        obtain ⟨bz, rfl, rfl, hn, hw, hbw⟩ := hcut
        have HZ := hid hn; have H33 := hid hw
        replace HX := hid (HX.out.below hbw)
        replace HT := hid (HT.out.below hbw)
        replace HKX := hid (HKX.out.below hbw)
        replace HR := hid (HR.out.below hbw)
        replace HB := hid (HB.out.below hbw)
        clear hn hw hbw
        generalize wc = w33 at HX HT HKX HR HB HZ H33 ⊢
        go_upto_region 11 with fail
        refine wp_region_held_drew (S := fun V => Boxed1 w #[.int .i64 s.wide, .int .i64 s.high, .int .i64 s.fall, .int .i64 s.a.lo, .int .i64 s.a.hi, .int .i64 s.b.lo, .int .i64 s.b.hi, .int .i64 s.half.lo, .int .i64 s.half.hi, .int .i64 s.peak.lo, .int .i64 s.peak.hi, .slice p n c] 26 V ∧ Below w33.heap.size w33 V) (by kernel_rfl) (⟨H33.out.drew, (Below.refl _ _).drew⟩) (fun hS => ?_)
        simp only [List.size_toArray, List.length_cons, List.length_nil, Nat.reduceAdd, Array.replicate_succ, Array.replicate_zero, List.push_toArray, List.nil_append, List.cons_append]
        refine tkH (i := 0) (v := ?_) (fun V hV => ?_) ?_
        rotate_left
        · go_simp
          try with_reducible rfl
        try simp only [Act.put, List.getElem_toArray, List.getElem_cons_zero, List.setIfInBounds_toArray, List.set_cons_zero, List.set_cons_succ]
        refine tkH (i := 1) (v := ?_) (fun V hV => ?_) ?_
        rotate_left
        · go_simp
          try with_reducible rfl
        try simp only [Act.put, List.getElem_toArray, List.getElem_cons_zero, List.getElem_cons_succ, List.setIfInBounds_toArray, List.set_cons_zero, List.set_cons_succ]
        refine tkH (i := 2) (v := ?_) (fun V hV => ?_) ?_
        rotate_left
        · go_simp
          try with_reducible rfl
        try simp only [Act.put, List.getElem_toArray, List.getElem_cons_zero, List.getElem_cons_succ, List.setIfInBounds_toArray, List.set_cons_zero, List.set_cons_succ]
        refine tkH (i := 3) (v := ?_) (fun V hV => ?_) ?_
        rotate_left
        · go_simp
          try with_reducible rfl
        try simp only [Act.put, List.getElem_toArray, List.getElem_cons_zero, List.getElem_cons_succ, List.setIfInBounds_toArray, List.set_cons_zero, List.set_cons_succ]
        refine tkH (i := 4) (v := ?_) (fun V hV => ?_) ?_
        rotate_left
        · go_simp
          try with_reducible rfl
        try simp only [Act.put, List.getElem_toArray, List.getElem_cons_zero, List.getElem_cons_succ, List.setIfInBounds_toArray, List.set_cons_zero, List.set_cons_succ]
        refine tkH (i := 5) (v := ?_) (fun V hV => ?_) ?_
        rotate_left
        · go_simp
          try with_reducible rfl
        try simp only [Act.put, List.getElem_toArray, List.getElem_cons_zero, List.getElem_cons_succ, List.setIfInBounds_toArray, List.set_cons_zero, List.set_cons_succ]
        refine tkH (i := 6) (v := ?_) (fun V hV => ?_) ?_
        rotate_left
        · go_simp
          try with_reducible rfl
        try simp only [Act.put, List.getElem_toArray, List.getElem_cons_zero, List.getElem_cons_succ, List.setIfInBounds_toArray, List.set_cons_zero, List.set_cons_succ]
        refine tkH (i := 7) (v := ?_) (fun V hV => ?_) ?_
        rotate_left
        · go_simp
          try with_reducible rfl
        try simp only [Act.put, List.getElem_toArray, List.getElem_cons_zero, List.getElem_cons_succ, List.setIfInBounds_toArray, List.set_cons_zero, List.set_cons_succ]
        refine tkH (i := 8) (v := ?_) (fun V hV => ?_) ?_
        rotate_left
        · go_simp
          try with_reducible rfl
        try simp only [Act.put, List.getElem_toArray, List.getElem_cons_zero, List.getElem_cons_succ, List.setIfInBounds_toArray, List.set_cons_zero, List.set_cons_succ]
        refine tkH (i := 9) (v := ?_) (fun V hV => ?_) ?_
        rotate_left
        · go_simp
          try with_reducible rfl
        try simp only [Act.put, List.getElem_toArray, List.getElem_cons_zero, List.getElem_cons_succ, List.setIfInBounds_toArray, List.set_cons_zero, List.set_cons_succ]
        refine tkH (i := 10) (v := ?_) (fun V hV => ?_) ?_
        rotate_left
        · go_simp
          try with_reducible rfl
        try simp only [Act.put, List.getElem_toArray, List.getElem_cons_zero, List.getElem_cons_succ, List.setIfInBounds_toArray, List.set_cons_zero, List.set_cons_succ]
        refine tkH (i := 11) (v := ?_) (fun V hV => ?_) ?_
        rotate_left
        · go_simp
          try with_reducible rfl
        try simp only [Act.put, List.getElem_toArray, List.getElem_cons_zero, List.getElem_cons_succ, List.setIfInBounds_toArray, List.set_cons_zero, List.set_cons_succ]
        refine tkH (i := 12) (v := ?_) (fun V hV => ?_) ?_
        rotate_left
        · go_simp
          try with_reducible rfl
        try simp only [Act.put, List.getElem_toArray, List.getElem_cons_zero, List.getElem_cons_succ, List.setIfInBounds_toArray, List.set_cons_zero, List.set_cons_succ]
        refine tkH (i := 13) (v := ?_) (fun V hV => ?_) ?_
        rotate_left
        · go_simp
          try with_reducible rfl
        try simp only [Act.put, List.getElem_toArray, List.getElem_cons_zero, List.getElem_cons_succ, List.setIfInBounds_toArray, List.set_cons_zero, List.set_cons_succ]
        refine tkH (i := 14) (v := ?_) (fun V hV => ?_) ?_
        rotate_left
        · go_simp
          try with_reducible rfl
        try simp only [Act.put, List.getElem_toArray, List.getElem_cons_zero, List.getElem_cons_succ, List.setIfInBounds_toArray, List.set_cons_zero, List.set_cons_succ]
        refine tkH (i := 15) (v := ?_) (fun V hV => ?_) ?_
        rotate_left
        · go_simp
          try with_reducible rfl
        try simp only [Act.put, List.getElem_toArray, List.getElem_cons_zero, List.getElem_cons_succ, List.setIfInBounds_toArray, List.set_cons_zero, List.set_cons_succ]
        refine tkH (i := 16) (v := ?_) (fun V hV => ?_) ?_
        rotate_left
        · go_simp
          try with_reducible rfl
        try simp only [Act.put, List.getElem_toArray, List.getElem_cons_zero, List.getElem_cons_succ, List.setIfInBounds_toArray, List.set_cons_zero, List.set_cons_succ]
        refine tkH (i := 17) (v := ?_) (fun V hV => ?_) ?_
        rotate_left
        · go_simp
          try with_reducible rfl
        try simp only [Act.put, List.getElem_toArray, List.getElem_cons_zero, List.getElem_cons_succ, List.setIfInBounds_toArray, List.set_cons_zero, List.set_cons_succ]
        refine tkH (i := 18) (v := ?_) (fun V hV => ?_) ?_
        rotate_left
        · go_simp
          try with_reducible rfl
        try simp only [Act.put, List.getElem_toArray, List.getElem_cons_zero, List.getElem_cons_succ, List.setIfInBounds_toArray, List.set_cons_zero, List.set_cons_succ]
        refine tkH (i := 19) (v := ?_) (fun V hV => ?_) ?_
        rotate_left
        · go_simp
          try with_reducible rfl
        try simp only [Act.put, List.getElem_toArray, List.getElem_cons_zero, List.getElem_cons_succ, List.setIfInBounds_toArray, List.set_cons_zero, List.set_cons_succ]
        refine tkH (i := 20) (v := ?_) (fun V hV => ?_) ?_
        rotate_left
        · go_simp
          try with_reducible rfl
        try simp only [Act.put, List.getElem_toArray, List.getElem_cons_zero, List.getElem_cons_succ, List.setIfInBounds_toArray, List.set_cons_zero, List.set_cons_succ]
        refine tkH (i := 21) (v := ?_) (fun V hV => ?_) ?_
        rotate_left
        · go_simp
          try with_reducible rfl
        try simp only [Act.put, List.getElem_toArray, List.getElem_cons_zero, List.getElem_cons_succ, List.setIfInBounds_toArray, List.set_cons_zero, List.set_cons_succ]
        refine tkH (i := 22) (v := ?_) (fun V hV => ?_) ?_
        rotate_left
        · go_simp
          try with_reducible rfl
        try simp only [Act.put, List.getElem_toArray, List.getElem_cons_zero, List.getElem_cons_succ, List.setIfInBounds_toArray, List.set_cons_zero, List.set_cons_succ]
        refine tkH (i := 23) (v := ?_) (fun V hV => ?_) ?_
        rotate_left
        · go_simp
          try with_reducible rfl
        try simp only [Act.put, List.getElem_toArray, List.getElem_cons_zero, List.getElem_cons_succ, List.setIfInBounds_toArray, List.set_cons_zero, List.set_cons_succ]
        refine tkH (i := 24) (v := ?_) (fun V hV => ?_) ?_
        rotate_left
        · go_simp
          try with_reducible rfl
        try simp only [Act.put, List.getElem_toArray, List.getElem_cons_zero, List.getElem_cons_succ, List.setIfInBounds_toArray, List.set_cons_zero, List.set_cons_succ]
        refine tkH (i := 25) (v := ?_) (fun V hV => ?_) ?_
        rotate_left
        · go_simp
          try with_reducible rfl
        try simp only [Act.put, List.getElem_toArray, List.getElem_cons_zero, List.getElem_cons_succ, List.setIfInBounds_toArray, List.set_cons_zero, List.set_cons_succ]
        refine tkH (i := 26) (v := ?_) (fun V hV => ?_) ?_
        rotate_left
        · go_simp
          try with_reducible rfl
        try simp only [Act.put, List.getElem_toArray, List.getElem_cons_zero, List.getElem_cons_succ, List.setIfInBounds_toArray, List.set_cons_zero, List.set_cons_succ]
        refine tkH (i := 27) (v := ?_) (fun V hV => ?_) ?_
        rotate_left
        · go_simp
          try with_reducible rfl
        try simp only [Act.put, List.getElem_toArray, List.getElem_cons_zero, List.getElem_cons_succ, List.setIfInBounds_toArray, List.set_cons_zero, List.set_cons_succ]
        refine tkH (i := 28) (v := ?_) (fun V hV => ?_) ?_
        rotate_left
        · have hX := HX.out.below hV.2; have e0 := (hX.2 0 (.int .i64 x.wide) rfl).1; have e1 := (hX.2 1 (.int .i64 x.high) rfl).1; have e2 := (hX.2 2 (.int .i64 x.fall) rfl).1; have e3 := (hX.2 3 (.int .i64 x.a.lo) rfl).1; have e4 := (hX.2 4 (.int .i64 x.a.hi) rfl).1; have e5 := (hX.2 5 (.int .i64 x.b.lo) rfl).1; have e6 := (hX.2 6 (.int .i64 x.b.hi) rfl).1; have e7 := (hX.2 7 (.int .i64 x.half.lo) rfl).1; have e8 := (hX.2 8 (.int .i64 x.half.hi) rfl).1; have e9 := (hX.2 9 (.int .i64 x.peak.lo) rfl).1; have e10 := (hX.2 10 (.int .i64 x.peak.hi) rfl).1; have e11 := (hX.2 11 (.slice q m d) rfl).1; go_simp
          try with_reducible rfl
        try simp only [Act.put, List.getElem_toArray, List.getElem_cons_zero, List.getElem_cons_succ, List.setIfInBounds_toArray, List.set_cons_zero, List.set_cons_succ]
        refine tkH (i := 30) (v := ?_) (fun V hV => ?_) ?_
        rotate_left
        · have hX := HT.out.below hV.2; have t0 := (hX.2 0 (.int .i64 t.a) rfl).1; have t1 := (hX.2 1 (.int .i64 t.b) rfl).1; have t2 := (hX.2 2 (.int .i64 t.half) rfl).1; have t3 := (hX.2 3 (.int .i64 t.peak) rfl).1; go_simp
          try with_reducible rfl
        try simp only [Act.put, List.getElem_toArray, List.getElem_cons_zero, List.getElem_cons_succ, List.setIfInBounds_toArray, List.set_cons_zero, List.set_cons_succ]
        refine wpAnyH_ready (rs := [29]) (by kernel_rfl) (by simp) ?_
        refine AllReadyH.cons (o := _) rfl (fun K hK => ?_) AllReadyH.nil
        go_simp
        refine (storm20_any x q m d _ (HKX.out.below hS.2) HMX.out).mono ?_
        rintro e s1 ⟨q8, m8, d8, rfl, hc8, hb⟩
        have HQ8 := hid hc8
        clear hc8
        refine hK.out _ _ (⟨hS.1.step hb, hS.2.trans (hb.mono hS.2.size)⟩) (fun hS => ?_)
        clear hK K
        try simp only [List.setIfInBounds_toArray, List.set_cons_zero, List.set_cons_succ]
        refine wpAnyH_ready (rs := [31]) (by kernel_rfl) (by simp) ?_
        refine AllReadyH.cons (o := _) rfl (fun K hK => ?_) AllReadyH.nil
        go_simp
        (with_reducible refine (truth53_any t _).mono ?_)
        rintro e s3 ⟨rfl, hb⟩
        replace HQ8 := hid (HQ8.out.below hb)
        refine hK.out _ _ (⟨hS.1.step hb, hS.2.trans (hb.mono hS.2.size)⟩) (fun hS => ?_)
        clear hK K
        try simp only [List.setIfInBounds_toArray, List.set_cons_zero, List.set_cons_succ]
        refine wpAnyH_ready (rs := [32]) (by kernel_rfl) (by simp) ?_
        refine AllReadyH.cons (o := _) rfl (fun K hK => ?_) AllReadyH.nil
        go_simp
        refine (prove_any x q8 m8 d8 t _ HQ8.out).mono ?_
        rintro e w34 ⟨rfl, hb⟩
        rw [HPR.out]
        refine hK.out _ _ (⟨hS.1.step hb, hS.2.trans (hb.mono hS.2.size)⟩) (fun hS => ?_)
        clear hK K
        try simp only [List.setIfInBounds_toArray, List.set_cons_zero, List.set_cons_succ]
        refine tkH (i := 33) (v := ?_) (fun V hV => ?_) ?_
        rotate_left
        · go_simp
          try with_reducible rfl
        try simp only [Act.put, List.getElem_toArray, List.getElem_cons_zero, List.getElem_cons_succ, List.setIfInBounds_toArray, List.set_cons_zero, List.set_cons_succ]
        refine tkH (i := 34) (v := ?_) (fun V hV => ?_) ?_
        rotate_left
        · go_simp
          try with_reducible rfl
        try simp only [Act.put, List.getElem_toArray, List.getElem_cons_zero, List.getElem_cons_succ, List.setIfInBounds_toArray, List.set_cons_zero, List.set_cons_succ]
        refine wpAnyH_done (by kernel_rfl) ?_ _
        have H34 := hid hS.1
        replace HX := hid (HX.out.below hS.2)
        replace HT := hid (HT.out.below hS.2)
        replace HKX := hid (HKX.out.below hS.2)
        replace HR := hid (HR.out.below hS.2)
        replace HB := hid (HB.out.below hS.2)
        replace HZ := hid (HZ.out.below hS.2)
        clear hS
        have e0 := (HX.out.2 0 (.int .i64 x.wide) rfl).1; have e1 := (HX.out.2 1 (.int .i64 x.high) rfl).1; have e2 := (HX.out.2 2 (.int .i64 x.fall) rfl).1; have e3 := (HX.out.2 3 (.int .i64 x.a.lo) rfl).1; have e4 := (HX.out.2 4 (.int .i64 x.a.hi) rfl).1; have e5 := (HX.out.2 5 (.int .i64 x.b.lo) rfl).1; have e6 := (HX.out.2 6 (.int .i64 x.b.hi) rfl).1; have e7 := (HX.out.2 7 (.int .i64 x.half.lo) rfl).1; have e8 := (HX.out.2 8 (.int .i64 x.half.hi) rfl).1; have e9 := (HX.out.2 9 (.int .i64 x.peak.lo) rfl).1; have e10 := (HX.out.2 10 (.int .i64 x.peak.hi) rfl).1; have e11 := (HX.out.2 11 (.slice q m d) rfl).1
        have t0 := (HT.out.2 0 (.int .i64 t.a) rfl).1; have t1 := (HT.out.2 1 (.int .i64 t.b) rfl).1; have t2 := (HT.out.2 2 (.int .i64 t.half) rfl).1; have t3 := (HT.out.2 3 (.int .i64 t.peak) rfl).1
        have d0 := (HR.out.2 0 (.int .i64 bx.lo) rfl).1; have d1 := (HR.out.2 1 (.int .i64 bx.hi) rfl).1; have d2 := (HR.out.2 2 (.int .i64 bY.lo) rfl).1; have d3 := (HR.out.2 3 (.int .i64 bY.hi) rfl).1
        go_wp2_with fail
        (with_reducible refine (places_any x q m d t bx bY _ HSS.out HST.out HSQ.out).mono ?_)
        rintro e w35 ⟨rfl, hb⟩
        have H35 := hid (H34.out.step hb)
        replace HX := hid (HX.out.below hb)
        replace HT := hid (HT.out.below hb)
        replace HKX := hid (HKX.out.below hb)
        replace HR := hid (HR.out.below hb)
        replace HB := hid (HB.out.below hb)
        replace HZ := hid (HZ.out.below hb)
        clear hb e0 e1 e2 e3 e4 e5 e6 e7 e8 e9 e10 e11 t0 t1 t2 t3 d0 d1 d2 d3
        have hov := one_verd HMT.out bx bY
        have hvv : verdT x (truthL x) bx bY = V := by rw [← HV.out, verdV, if_pos HE1.out]
        rw [hvv] at hov
        obtain ⟨SO, hSO⟩ : ∃ v, hitsB x t bx bY true = v := ⟨_, rfl⟩
        obtain ⟨SF, hSF⟩ : ∃ v, hitsB x t bx bY false = v := ⟨_, rfl⟩
        rw [hSO, hSF] at hov ⊢
        clear hSO hSF hvv
        have hbs : bS = bndS x := by rw [← HBS.out, boundS, if_pos HES.out]
        have HI0 : Hid (inB t.a bS.a.lo bS.a.hi = true) := hid (by rw [hbs]; exact inB_iff.2 (one_bound HMT.out fun t => t.a))
        have HI1 : Hid (inB t.b bS.b.lo bS.b.hi = true) := hid (by rw [hbs]; exact inB_iff.2 (one_bound HMT.out fun t => t.b))
        have HI2 : Hid (inB t.half bS.half.lo bS.half.hi = true) := hid (by rw [hbs]; exact inB_iff.2 (one_bound HMT.out fun t => t.half))
        have HI3 : Hid (inB t.peak bS.peak.lo bS.peak.hi = true) := hid (by rw [hbs]; exact inB_iff.2 (one_bound HMT.out fun t => t.peak))
        have HIS : Hid (inB (sizeS x t bx.lo bY.lo) R.lo R.hi = true) := hid (by rw [← HRR.out, sizesV, if_pos HE3.out]; exact inB_iff.2 (one_size HMT.out _ _))
        clear hbs
        go_upto_region 14 with fail
        by_cases h1 : V = 1
        · subst h1
          have hsf : SF = false := hov.1 rfl
          subst hsf
          have HVK : Hid (((1 : Int) != 1) = false ∧ ((1 : Int) != 2) = true) := hid ⟨rfl, rfl⟩
          clear hov
          refine wp_region_held_drew (S := fun V => Boxed1 w #[.int .i64 s.wide, .int .i64 s.high, .int .i64 s.fall, .int .i64 s.a.lo, .int .i64 s.a.hi, .int .i64 s.b.lo, .int .i64 s.b.hi, .int .i64 s.half.lo, .int .i64 s.half.hi, .int .i64 s.peak.lo, .int .i64 s.peak.hi, .slice p n c] 26 V ∧ Below w35.heap.size w35 V) (by kernel_rfl) (⟨H35.out.drew, (Below.refl _ _).drew⟩) (fun hS => ?_)
          simp only [List.size_toArray, List.length_cons, List.length_nil, Nat.reduceAdd, Array.replicate_succ, Array.replicate_zero, List.push_toArray, List.nil_append, List.cons_append]
          refine tkH (i := 0) (v := ?_) (fun V hV => ?_) ?_
          rotate_left
          · go_simp
            try with_reducible rfl
          try simp only [Act.put, List.getElem_toArray, List.getElem_cons_zero, List.setIfInBounds_toArray, List.set_cons_zero, List.set_cons_succ]
          refine tkH (i := 1) (v := ?_) (fun V hV => ?_) ?_
          rotate_left
          · have hX := HT.out.below hV.2; have t0 := (hX.2 0 (.int .i64 t.a) rfl).1; have t1 := (hX.2 1 (.int .i64 t.b) rfl).1; have t2 := (hX.2 2 (.int .i64 t.half) rfl).1; have t3 := (hX.2 3 (.int .i64 t.peak) rfl).1; go_simp
            try with_reducible rfl
          try simp only [Act.put, List.getElem_toArray, List.getElem_cons_zero, List.getElem_cons_succ, List.setIfInBounds_toArray, List.set_cons_zero, List.set_cons_succ]
          refine tkH (i := 2) (v := ?_) (fun V hV => ?_) ?_
          rotate_left
          · go_simp
            try with_reducible rfl
          try simp only [Act.put, List.getElem_toArray, List.getElem_cons_zero, List.getElem_cons_succ, List.setIfInBounds_toArray, List.set_cons_zero, List.set_cons_succ]
          refine tkH (i := 3) (v := ?_) (fun V hV => ?_) ?_
          rotate_left
          · have hX := HB.out.below hV.2; have b0 := (hX.2 0 (.int .i64 bS.wide) rfl).1; have b1 := (hX.2 1 (.int .i64 bS.high) rfl).1; have b2 := (hX.2 2 (.int .i64 bS.fall) rfl).1; have b3 := (hX.2 3 (.int .i64 bS.a.lo) rfl).1; have b4 := (hX.2 4 (.int .i64 bS.a.hi) rfl).1; have b5 := (hX.2 5 (.int .i64 bS.b.lo) rfl).1; have b6 := (hX.2 6 (.int .i64 bS.b.hi) rfl).1; have b7 := (hX.2 7 (.int .i64 bS.half.lo) rfl).1; have b8 := (hX.2 8 (.int .i64 bS.half.hi) rfl).1; have b9 := (hX.2 9 (.int .i64 bS.peak.lo) rfl).1; have b10 := (hX.2 10 (.int .i64 bS.peak.hi) rfl).1; have b11 := (hX.2 11 (.slice qb mb db) rfl).1; go_simp
            try with_reducible rfl
          try simp only [Act.put, List.getElem_toArray, List.getElem_cons_zero, List.getElem_cons_succ, List.setIfInBounds_toArray, List.set_cons_zero, List.set_cons_succ]
          refine wpAnyH_ready (rs := [4]) (by kernel_rfl) (by simp) ?_
          refine AllReadyH.cons (o := _) rfl (fun K hK => ?_) AllReadyH.nil
          go_simp
          (with_reducible refine (in62_any t.a bS.a _).mono ?_)
          rintro e v4 ⟨rfl, hb⟩
          rw [HI0.out]
          refine hK.out _ _ (⟨hS.1.step hb, hS.2.trans (hb.mono hS.2.size)⟩) (fun hS => ?_)
          clear hK K
          try simp only [List.setIfInBounds_toArray, List.set_cons_zero, List.set_cons_succ]
          refine tkH (i := 5) (v := ?_) (fun V hV => ?_) ?_
          rotate_left
          · go_simp
            try with_reducible rfl
          try simp only [Act.put, List.getElem_toArray, List.getElem_cons_zero, List.getElem_cons_succ, List.setIfInBounds_toArray, List.set_cons_zero, List.set_cons_succ]
          refine tkH (i := 6) (v := ?_) (fun V hV => ?_) ?_
          rotate_left
          · go_simp
            try with_reducible rfl
          try simp only [Act.put, List.getElem_toArray, List.getElem_cons_zero, List.getElem_cons_succ, List.setIfInBounds_toArray, List.set_cons_zero, List.set_cons_succ]
          refine tkH (i := 7) (v := ?_) (fun V hV => ?_) ?_
          rotate_left
          · have hX := HT.out.below hV.2; have t0 := (hX.2 0 (.int .i64 t.a) rfl).1; have t1 := (hX.2 1 (.int .i64 t.b) rfl).1; have t2 := (hX.2 2 (.int .i64 t.half) rfl).1; have t3 := (hX.2 3 (.int .i64 t.peak) rfl).1; go_simp
            try with_reducible rfl
          try simp only [Act.put, List.getElem_toArray, List.getElem_cons_zero, List.getElem_cons_succ, List.setIfInBounds_toArray, List.set_cons_zero, List.set_cons_succ]
          refine tkH (i := 8) (v := ?_) (fun V hV => ?_) ?_
          rotate_left
          · go_simp
            try with_reducible rfl
          try simp only [Act.put, List.getElem_toArray, List.getElem_cons_zero, List.getElem_cons_succ, List.setIfInBounds_toArray, List.set_cons_zero, List.set_cons_succ]
          refine tkH (i := 9) (v := ?_) (fun V hV => ?_) ?_
          rotate_left
          · have hX := HB.out.below hV.2; have b0 := (hX.2 0 (.int .i64 bS.wide) rfl).1; have b1 := (hX.2 1 (.int .i64 bS.high) rfl).1; have b2 := (hX.2 2 (.int .i64 bS.fall) rfl).1; have b3 := (hX.2 3 (.int .i64 bS.a.lo) rfl).1; have b4 := (hX.2 4 (.int .i64 bS.a.hi) rfl).1; have b5 := (hX.2 5 (.int .i64 bS.b.lo) rfl).1; have b6 := (hX.2 6 (.int .i64 bS.b.hi) rfl).1; have b7 := (hX.2 7 (.int .i64 bS.half.lo) rfl).1; have b8 := (hX.2 8 (.int .i64 bS.half.hi) rfl).1; have b9 := (hX.2 9 (.int .i64 bS.peak.lo) rfl).1; have b10 := (hX.2 10 (.int .i64 bS.peak.hi) rfl).1; have b11 := (hX.2 11 (.slice qb mb db) rfl).1; go_simp
            try with_reducible rfl
          try simp only [Act.put, List.getElem_toArray, List.getElem_cons_zero, List.getElem_cons_succ, List.setIfInBounds_toArray, List.set_cons_zero, List.set_cons_succ]
          refine wpAnyH_ready (rs := [10]) (by kernel_rfl) (by simp) ?_
          refine AllReadyH.cons (o := _) rfl (fun K hK => ?_) AllReadyH.nil
          go_simp
          (with_reducible refine (in62_any t.b bS.b _).mono ?_)
          rintro e v10 ⟨rfl, hb⟩
          rw [HI1.out]
          refine hK.out _ _ (⟨hS.1.step hb, hS.2.trans (hb.mono hS.2.size)⟩) (fun hS => ?_)
          clear hK K
          try simp only [List.setIfInBounds_toArray, List.set_cons_zero, List.set_cons_succ]
          refine tkH (i := 11) (v := ?_) (fun V hV => ?_) ?_
          rotate_left
          · go_simp
            try with_reducible rfl
          try simp only [Act.put, List.getElem_toArray, List.getElem_cons_zero, List.getElem_cons_succ, List.setIfInBounds_toArray, List.set_cons_zero, List.set_cons_succ]
          refine tkH (i := 12) (v := ?_) (fun V hV => ?_) ?_
          rotate_left
          · go_simp
            try with_reducible rfl
          try simp only [Act.put, List.getElem_toArray, List.getElem_cons_zero, List.getElem_cons_succ, List.setIfInBounds_toArray, List.set_cons_zero, List.set_cons_succ]
          refine tkH (i := 13) (v := ?_) (fun V hV => ?_) ?_
          rotate_left
          · go_simp
            try with_reducible rfl
          try simp only [Act.put, List.getElem_toArray, List.getElem_cons_zero, List.getElem_cons_succ, List.setIfInBounds_toArray, List.set_cons_zero, List.set_cons_succ]
          refine tkH (i := 14) (v := ?_) (fun V hV => ?_) ?_
          rotate_left
          · have hX := HT.out.below hV.2; have t0 := (hX.2 0 (.int .i64 t.a) rfl).1; have t1 := (hX.2 1 (.int .i64 t.b) rfl).1; have t2 := (hX.2 2 (.int .i64 t.half) rfl).1; have t3 := (hX.2 3 (.int .i64 t.peak) rfl).1; go_simp
            try with_reducible rfl
          try simp only [Act.put, List.getElem_toArray, List.getElem_cons_zero, List.getElem_cons_succ, List.setIfInBounds_toArray, List.set_cons_zero, List.set_cons_succ]
          refine tkH (i := 15) (v := ?_) (fun V hV => ?_) ?_
          rotate_left
          · go_simp
            try with_reducible rfl
          try simp only [Act.put, List.getElem_toArray, List.getElem_cons_zero, List.getElem_cons_succ, List.setIfInBounds_toArray, List.set_cons_zero, List.set_cons_succ]
          refine tkH (i := 16) (v := ?_) (fun V hV => ?_) ?_
          rotate_left
          · have hX := HB.out.below hV.2; have b0 := (hX.2 0 (.int .i64 bS.wide) rfl).1; have b1 := (hX.2 1 (.int .i64 bS.high) rfl).1; have b2 := (hX.2 2 (.int .i64 bS.fall) rfl).1; have b3 := (hX.2 3 (.int .i64 bS.a.lo) rfl).1; have b4 := (hX.2 4 (.int .i64 bS.a.hi) rfl).1; have b5 := (hX.2 5 (.int .i64 bS.b.lo) rfl).1; have b6 := (hX.2 6 (.int .i64 bS.b.hi) rfl).1; have b7 := (hX.2 7 (.int .i64 bS.half.lo) rfl).1; have b8 := (hX.2 8 (.int .i64 bS.half.hi) rfl).1; have b9 := (hX.2 9 (.int .i64 bS.peak.lo) rfl).1; have b10 := (hX.2 10 (.int .i64 bS.peak.hi) rfl).1; have b11 := (hX.2 11 (.slice qb mb db) rfl).1; go_simp
            try with_reducible rfl
          try simp only [Act.put, List.getElem_toArray, List.getElem_cons_zero, List.getElem_cons_succ, List.setIfInBounds_toArray, List.set_cons_zero, List.set_cons_succ]
          refine wpAnyH_ready (rs := [17]) (by kernel_rfl) (by simp) ?_
          refine AllReadyH.cons (o := _) rfl (fun K hK => ?_) AllReadyH.nil
          go_simp
          (with_reducible refine (in62_any t.half bS.half _).mono ?_)
          rintro e v17 ⟨rfl, hb⟩
          rw [HI2.out]
          refine hK.out _ _ (⟨hS.1.step hb, hS.2.trans (hb.mono hS.2.size)⟩) (fun hS => ?_)
          clear hK K
          try simp only [List.setIfInBounds_toArray, List.set_cons_zero, List.set_cons_succ]
          refine tkH (i := 18) (v := ?_) (fun V hV => ?_) ?_
          rotate_left
          · go_simp
            try with_reducible rfl
          try simp only [Act.put, List.getElem_toArray, List.getElem_cons_zero, List.getElem_cons_succ, List.setIfInBounds_toArray, List.set_cons_zero, List.set_cons_succ]
          refine tkH (i := 19) (v := ?_) (fun V hV => ?_) ?_
          rotate_left
          · go_simp
            try with_reducible rfl
          try simp only [Act.put, List.getElem_toArray, List.getElem_cons_zero, List.getElem_cons_succ, List.setIfInBounds_toArray, List.set_cons_zero, List.set_cons_succ]
          refine tkH (i := 20) (v := ?_) (fun V hV => ?_) ?_
          rotate_left
          · go_simp
            try with_reducible rfl
          try simp only [Act.put, List.getElem_toArray, List.getElem_cons_zero, List.getElem_cons_succ, List.setIfInBounds_toArray, List.set_cons_zero, List.set_cons_succ]
          refine tkH (i := 21) (v := ?_) (fun V hV => ?_) ?_
          rotate_left
          · have hX := HT.out.below hV.2; have t0 := (hX.2 0 (.int .i64 t.a) rfl).1; have t1 := (hX.2 1 (.int .i64 t.b) rfl).1; have t2 := (hX.2 2 (.int .i64 t.half) rfl).1; have t3 := (hX.2 3 (.int .i64 t.peak) rfl).1; go_simp
            try with_reducible rfl
          try simp only [Act.put, List.getElem_toArray, List.getElem_cons_zero, List.getElem_cons_succ, List.setIfInBounds_toArray, List.set_cons_zero, List.set_cons_succ]
          refine tkH (i := 22) (v := ?_) (fun V hV => ?_) ?_
          rotate_left
          · go_simp
            try with_reducible rfl
          try simp only [Act.put, List.getElem_toArray, List.getElem_cons_zero, List.getElem_cons_succ, List.setIfInBounds_toArray, List.set_cons_zero, List.set_cons_succ]
          refine tkH (i := 23) (v := ?_) (fun V hV => ?_) ?_
          rotate_left
          · have hX := HB.out.below hV.2; have b0 := (hX.2 0 (.int .i64 bS.wide) rfl).1; have b1 := (hX.2 1 (.int .i64 bS.high) rfl).1; have b2 := (hX.2 2 (.int .i64 bS.fall) rfl).1; have b3 := (hX.2 3 (.int .i64 bS.a.lo) rfl).1; have b4 := (hX.2 4 (.int .i64 bS.a.hi) rfl).1; have b5 := (hX.2 5 (.int .i64 bS.b.lo) rfl).1; have b6 := (hX.2 6 (.int .i64 bS.b.hi) rfl).1; have b7 := (hX.2 7 (.int .i64 bS.half.lo) rfl).1; have b8 := (hX.2 8 (.int .i64 bS.half.hi) rfl).1; have b9 := (hX.2 9 (.int .i64 bS.peak.lo) rfl).1; have b10 := (hX.2 10 (.int .i64 bS.peak.hi) rfl).1; have b11 := (hX.2 11 (.slice qb mb db) rfl).1; go_simp
            try with_reducible rfl
          try simp only [Act.put, List.getElem_toArray, List.getElem_cons_zero, List.getElem_cons_succ, List.setIfInBounds_toArray, List.set_cons_zero, List.set_cons_succ]
          refine wpAnyH_ready (rs := [24]) (by kernel_rfl) (by simp) ?_
          refine AllReadyH.cons (o := _) rfl (fun K hK => ?_) AllReadyH.nil
          go_simp
          (with_reducible refine (in62_any t.peak bS.peak _).mono ?_)
          rintro e v24 ⟨rfl, hb⟩
          rw [HI3.out]
          refine hK.out _ _ (⟨hS.1.step hb, hS.2.trans (hb.mono hS.2.size)⟩) (fun hS => ?_)
          clear hK K
          try simp only [List.setIfInBounds_toArray, List.set_cons_zero, List.set_cons_succ]
          refine tkH (i := 25) (v := ?_) (fun V hV => ?_) ?_
          rotate_left
          · go_simp
            try with_reducible rfl
          try simp only [Act.put, List.getElem_toArray, List.getElem_cons_zero, List.getElem_cons_succ, List.setIfInBounds_toArray, List.set_cons_zero, List.set_cons_succ]
          refine tkH (i := 26) (v := ?_) (fun V hV => ?_) ?_
          rotate_left
          · go_simp
            try with_reducible rfl
          try simp only [Act.put, List.getElem_toArray, List.getElem_cons_zero, List.getElem_cons_succ, List.setIfInBounds_toArray, List.set_cons_zero, List.set_cons_succ]
          refine tkH (i := 27) (v := ?_) (fun V hV => ?_) ?_
          rotate_left
          · have hX := HX.out.below hV.2; have e0 := (hX.2 0 (.int .i64 x.wide) rfl).1; have e1 := (hX.2 1 (.int .i64 x.high) rfl).1; have e2 := (hX.2 2 (.int .i64 x.fall) rfl).1; have e3 := (hX.2 3 (.int .i64 x.a.lo) rfl).1; have e4 := (hX.2 4 (.int .i64 x.a.hi) rfl).1; have e5 := (hX.2 5 (.int .i64 x.b.lo) rfl).1; have e6 := (hX.2 6 (.int .i64 x.b.hi) rfl).1; have e7 := (hX.2 7 (.int .i64 x.half.lo) rfl).1; have e8 := (hX.2 8 (.int .i64 x.half.hi) rfl).1; have e9 := (hX.2 9 (.int .i64 x.peak.lo) rfl).1; have e10 := (hX.2 10 (.int .i64 x.peak.hi) rfl).1; have e11 := (hX.2 11 (.slice q m d) rfl).1; go_simp
            try with_reducible rfl
          try simp only [Act.put, List.getElem_toArray, List.getElem_cons_zero, List.getElem_cons_succ, List.setIfInBounds_toArray, List.set_cons_zero, List.set_cons_succ]
          refine tkH (i := 28) (v := ?_) (fun V hV => ?_) ?_
          rotate_left
          · have hX := HT.out.below hV.2; have t0 := (hX.2 0 (.int .i64 t.a) rfl).1; have t1 := (hX.2 1 (.int .i64 t.b) rfl).1; have t2 := (hX.2 2 (.int .i64 t.half) rfl).1; have t3 := (hX.2 3 (.int .i64 t.peak) rfl).1; go_simp
            try with_reducible rfl
          try simp only [Act.put, List.getElem_toArray, List.getElem_cons_zero, List.getElem_cons_succ, List.setIfInBounds_toArray, List.set_cons_zero, List.set_cons_succ]
          refine tkH (i := 29) (v := ?_) (fun V hV => ?_) ?_
          rotate_left
          · go_simp
            try with_reducible rfl
          try simp only [Act.put, List.getElem_toArray, List.getElem_cons_zero, List.getElem_cons_succ, List.setIfInBounds_toArray, List.set_cons_zero, List.set_cons_succ]
          refine tkH (i := 30) (v := ?_) (fun V hV => ?_) ?_
          rotate_left
          · go_simp
            try with_reducible rfl
          try simp only [Act.put, List.getElem_toArray, List.getElem_cons_zero, List.getElem_cons_succ, List.setIfInBounds_toArray, List.set_cons_zero, List.set_cons_succ]
          refine tkH (i := 31) (v := ?_) (fun V hV => ?_) ?_
          rotate_left
          · have hX := HR.out.below hV.2; have d0 := (hX.2 0 (.int .i64 bx.lo) rfl).1; have d1 := (hX.2 1 (.int .i64 bx.hi) rfl).1; have d2 := (hX.2 2 (.int .i64 bY.lo) rfl).1; have d3 := (hX.2 3 (.int .i64 bY.hi) rfl).1; go_simp
            try with_reducible rfl
          try simp only [Act.put, List.getElem_toArray, List.getElem_cons_zero, List.getElem_cons_succ, List.setIfInBounds_toArray, List.set_cons_zero, List.set_cons_succ]
          refine tkH (i := 32) (v := ?_) (fun V hV => ?_) ?_
          rotate_left
          · go_simp
            try with_reducible rfl
          try simp only [Act.put, List.getElem_toArray, List.getElem_cons_zero, List.getElem_cons_succ, List.setIfInBounds_toArray, List.set_cons_zero, List.set_cons_succ]
          refine tkH (i := 33) (v := ?_) (fun V hV => ?_) ?_
          rotate_left
          · go_simp
            try with_reducible rfl
          try simp only [Act.put, List.getElem_toArray, List.getElem_cons_zero, List.getElem_cons_succ, List.setIfInBounds_toArray, List.set_cons_zero, List.set_cons_succ]
          refine tkH (i := 34) (v := ?_) (fun V hV => ?_) ?_
          rotate_left
          · have hX := HR.out.below hV.2; have d0 := (hX.2 0 (.int .i64 bx.lo) rfl).1; have d1 := (hX.2 1 (.int .i64 bx.hi) rfl).1; have d2 := (hX.2 2 (.int .i64 bY.lo) rfl).1; have d3 := (hX.2 3 (.int .i64 bY.hi) rfl).1; go_simp
            try with_reducible rfl
          try simp only [Act.put, List.getElem_toArray, List.getElem_cons_zero, List.getElem_cons_succ, List.setIfInBounds_toArray, List.set_cons_zero, List.set_cons_succ]
          refine tkH (i := 36) (v := ?_) (fun V hV => ?_) ?_
          rotate_left
          · have hX := HZ.out.below hV.2; have z0 := (hX.2 0 (.int .i64 R.lo) rfl).1; have z1 := (hX.2 1 (.int .i64 R.hi) rfl).1; go_simp
            try with_reducible rfl
          try simp only [Act.put, List.getElem_toArray, List.getElem_cons_zero, List.getElem_cons_succ, List.setIfInBounds_toArray, List.set_cons_zero, List.set_cons_succ]
          refine wpAnyH_ready (rs := [35]) (by kernel_rfl) (by simp) ?_
          refine AllReadyH.cons (o := _) rfl (fun K hK => ?_) AllReadyH.nil
          go_simp
          (with_reducible refine (sizeR_any x q m d t bx.lo bY.lo _ HSS.out HST.out (by have := HRB.out; omega) (by have := HRB.out; omega) (by have := HRB.out; omega) (by have := HRB.out; omega)).mono ?_)
          rintro e v35 ⟨rfl, hb⟩
          refine hK.out _ _ (⟨hS.1.step hb, hS.2.trans (hb.mono hS.2.size)⟩) (fun hS => ?_)
          clear hK K
          try simp only [List.setIfInBounds_toArray, List.set_cons_zero, List.set_cons_succ]
          refine wpAnyH_ready (rs := [37]) (by kernel_rfl) (by simp) ?_
          refine AllReadyH.cons (o := _) rfl (fun K hK => ?_) AllReadyH.nil
          go_simp
          (with_reducible refine (in62_any (sizeS x t bx.lo bY.lo) R _).mono ?_)
          rintro e v37 ⟨rfl, hb⟩
          rw [HIS.out]
          refine hK.out _ _ (⟨hS.1.step hb, hS.2.trans (hb.mono hS.2.size)⟩) (fun hS => ?_)
          clear hK K
          try simp only [List.setIfInBounds_toArray, List.set_cons_zero, List.set_cons_succ]
          refine tkH (i := 38) (v := ?_) (fun V hV => ?_) ?_
          rotate_left
          · go_simp
            try with_reducible rfl
          try simp only [Act.put, List.getElem_toArray, List.getElem_cons_zero, List.getElem_cons_succ, List.setIfInBounds_toArray, List.set_cons_zero, List.set_cons_succ]
          refine tkH (i := 39) (v := ?_) (fun V hV => ?_) ?_
          rotate_left
          · go_simp
            try with_reducible rfl
          try simp only [Act.put, List.getElem_toArray, List.getElem_cons_zero, List.getElem_cons_succ, List.setIfInBounds_toArray, List.set_cons_zero, List.set_cons_succ]
          refine tkH (i := 40) (v := ?_) (fun V hV => ?_) ?_
          rotate_left
          · go_simp
            try with_reducible rfl
          try simp only [Act.put, List.getElem_toArray, List.getElem_cons_zero, List.getElem_cons_succ, List.setIfInBounds_toArray, List.set_cons_zero, List.set_cons_succ]
          refine tkH (i := 41) (v := ?_) (fun V hV => ?_) ?_
          rotate_left
          · have hv1 := HVK.out.1; have hv2 := HVK.out.2; go_simp
            try with_reducible rfl
          try simp only [Act.put, List.getElem_toArray, List.getElem_cons_zero, List.getElem_cons_succ, List.setIfInBounds_toArray, List.set_cons_zero, List.set_cons_succ]
          refine tkH (i := 42) (v := ?_) (fun V hV => ?_) ?_
          rotate_left
          · go_simp
            try with_reducible rfl
          try simp only [Act.put, List.getElem_toArray, List.getElem_cons_zero, List.getElem_cons_succ, List.setIfInBounds_toArray, List.set_cons_zero, List.set_cons_succ]
          refine tkH (i := 43) (v := ?_) (fun V hV => ?_) ?_
          rotate_left
          · go_simp
            try with_reducible rfl
          try simp only [Act.put, List.getElem_toArray, List.getElem_cons_zero, List.getElem_cons_succ, List.setIfInBounds_toArray, List.set_cons_zero, List.set_cons_succ]
          refine tkH (i := 44) (v := ?_) (fun V hV => ?_) ?_
          rotate_left
          · go_simp
            try with_reducible rfl
          try simp only [Act.put, List.getElem_toArray, List.getElem_cons_zero, List.getElem_cons_succ, List.setIfInBounds_toArray, List.set_cons_zero, List.set_cons_succ]
          refine tkH (i := 45) (v := ?_) (fun V hV => ?_) ?_
          rotate_left
          · go_simp
            try with_reducible rfl
          try simp only [Act.put, List.getElem_toArray, List.getElem_cons_zero, List.getElem_cons_succ, List.setIfInBounds_toArray, List.set_cons_zero, List.set_cons_succ]
          refine tkH (i := 46) (v := ?_) (fun V hV => ?_) ?_
          rotate_left
          · go_simp
            try with_reducible rfl
          try simp only [Act.put, List.getElem_toArray, List.getElem_cons_zero, List.getElem_cons_succ, List.setIfInBounds_toArray, List.set_cons_zero, List.set_cons_succ]
          refine tkH (i := 47) (v := ?_) (fun V hV => ?_) ?_
          rotate_left
          · go_simp
            try with_reducible rfl
          try simp only [Act.put, List.getElem_toArray, List.getElem_cons_zero, List.getElem_cons_succ, List.setIfInBounds_toArray, List.set_cons_zero, List.set_cons_succ]
          refine tkH (i := 48) (v := ?_) (fun V hV => ?_) ?_
          rotate_left
          · have hv1 := HVK.out.1; have hv2 := HVK.out.2; go_simp
            try with_reducible rfl
          try simp only [Act.put, List.getElem_toArray, List.getElem_cons_zero, List.getElem_cons_succ, List.setIfInBounds_toArray, List.set_cons_zero, List.set_cons_succ]
          refine tkH (i := 49) (v := ?_) (fun V hV => ?_) ?_
          rotate_left
          · go_simp
            try with_reducible rfl
          try simp only [Act.put, List.getElem_toArray, List.getElem_cons_zero, List.getElem_cons_succ, List.setIfInBounds_toArray, List.set_cons_zero, List.set_cons_succ]
          refine tkU (i := 50) ?_
          try simp only [Act.put, List.getElem_toArray, List.getElem_cons_zero, List.getElem_cons_succ, List.setIfInBounds_toArray, List.set_cons_zero, List.set_cons_succ]
          refine tkU (i := 51) ?_
          try simp only [Act.put, List.getElem_toArray, List.getElem_cons_zero, List.getElem_cons_succ, List.setIfInBounds_toArray, List.set_cons_zero, List.set_cons_succ]
          refine tkH (i := 52) (v := ?_) (fun V hV => ?_) ?_
          rotate_left
          · go_simp
            try with_reducible rfl
          try simp only [Act.put, List.getElem_toArray, List.getElem_cons_zero, List.getElem_cons_succ, List.setIfInBounds_toArray, List.set_cons_zero, List.set_cons_succ]
          refine tkH (i := 53) (v := ?_) (fun V hV => ?_) ?_
          rotate_left
          · go_simp
            try with_reducible rfl
          try simp only [Act.put, List.getElem_toArray, List.getElem_cons_zero, List.getElem_cons_succ, List.setIfInBounds_toArray, List.set_cons_zero, List.set_cons_succ]
          refine tkH (i := 54) (v := ?_) (fun V hV => ?_) ?_
          rotate_left
          · go_simp
            try with_reducible rfl
          try simp only [Act.put, List.getElem_toArray, List.getElem_cons_zero, List.getElem_cons_succ, List.setIfInBounds_toArray, List.set_cons_zero, List.set_cons_succ]
          refine wpAnyH_ready (rs := [55]) (by kernel_rfl) (by simp) ?_
          refine AllReadyH.cons (o := _) rfl (fun K hK => ?_) AllReadyH.nil
          go_simp
          refine (awake_any _).mono ?_
          rintro e v55 ⟨rfl, hb⟩
          refine hK.out _ _ (⟨hS.1.step hb, hS.2.trans (hb.mono hS.2.size)⟩) (fun hS => ?_)
          clear hK K
          try simp only [List.setIfInBounds_toArray, List.set_cons_zero, List.set_cons_succ]
          refine tkH (i := 56) (v := ?_) (fun V hV => ?_) ?_
          rotate_left
          · go_simp
            try with_reducible rfl
          try simp only [Act.put, List.getElem_toArray, List.getElem_cons_zero, List.getElem_cons_succ, List.setIfInBounds_toArray, List.set_cons_zero, List.set_cons_succ]
          refine tkH (i := 57) (v := ?_) (fun V hV => ?_) ?_
          rotate_left
          · go_simp
            try with_reducible rfl
          try simp only [Act.put, List.getElem_toArray, List.getElem_cons_zero, List.getElem_cons_succ, List.setIfInBounds_toArray, List.set_cons_zero, List.set_cons_succ]
          refine wpAnyH_done (by kernel_rfl) ?_ _
          go_wp2_with fail
          go_ret
          exact ⟨rfl, hS.1.below⟩
        · by_cases h2 : V = 2
          · subst h2
            have hso : SO = false := hov.2 rfl
            subst hso
            have HVK : Hid (((2 : Int) != 1) = true ∧ ((2 : Int) != 2) = false) := hid ⟨rfl, rfl⟩
            clear hov h1
            refine wp_region_held_drew (S := fun V => Boxed1 w #[.int .i64 s.wide, .int .i64 s.high, .int .i64 s.fall, .int .i64 s.a.lo, .int .i64 s.a.hi, .int .i64 s.b.lo, .int .i64 s.b.hi, .int .i64 s.half.lo, .int .i64 s.half.hi, .int .i64 s.peak.lo, .int .i64 s.peak.hi, .slice p n c] 26 V ∧ Below w35.heap.size w35 V) (by kernel_rfl) (⟨H35.out.drew, (Below.refl _ _).drew⟩) (fun hS => ?_)
            simp only [List.size_toArray, List.length_cons, List.length_nil, Nat.reduceAdd, Array.replicate_succ, Array.replicate_zero, List.push_toArray, List.nil_append, List.cons_append]
            refine tkH (i := 0) (v := ?_) (fun V hV => ?_) ?_
            rotate_left
            · go_simp
              try with_reducible rfl
            try simp only [Act.put, List.getElem_toArray, List.getElem_cons_zero, List.setIfInBounds_toArray, List.set_cons_zero, List.set_cons_succ]
            refine tkH (i := 1) (v := ?_) (fun V hV => ?_) ?_
            rotate_left
            · have hX := HT.out.below hV.2; have t0 := (hX.2 0 (.int .i64 t.a) rfl).1; have t1 := (hX.2 1 (.int .i64 t.b) rfl).1; have t2 := (hX.2 2 (.int .i64 t.half) rfl).1; have t3 := (hX.2 3 (.int .i64 t.peak) rfl).1; go_simp
              try with_reducible rfl
            try simp only [Act.put, List.getElem_toArray, List.getElem_cons_zero, List.getElem_cons_succ, List.setIfInBounds_toArray, List.set_cons_zero, List.set_cons_succ]
            refine tkH (i := 2) (v := ?_) (fun V hV => ?_) ?_
            rotate_left
            · go_simp
              try with_reducible rfl
            try simp only [Act.put, List.getElem_toArray, List.getElem_cons_zero, List.getElem_cons_succ, List.setIfInBounds_toArray, List.set_cons_zero, List.set_cons_succ]
            refine tkH (i := 3) (v := ?_) (fun V hV => ?_) ?_
            rotate_left
            · have hX := HB.out.below hV.2; have b0 := (hX.2 0 (.int .i64 bS.wide) rfl).1; have b1 := (hX.2 1 (.int .i64 bS.high) rfl).1; have b2 := (hX.2 2 (.int .i64 bS.fall) rfl).1; have b3 := (hX.2 3 (.int .i64 bS.a.lo) rfl).1; have b4 := (hX.2 4 (.int .i64 bS.a.hi) rfl).1; have b5 := (hX.2 5 (.int .i64 bS.b.lo) rfl).1; have b6 := (hX.2 6 (.int .i64 bS.b.hi) rfl).1; have b7 := (hX.2 7 (.int .i64 bS.half.lo) rfl).1; have b8 := (hX.2 8 (.int .i64 bS.half.hi) rfl).1; have b9 := (hX.2 9 (.int .i64 bS.peak.lo) rfl).1; have b10 := (hX.2 10 (.int .i64 bS.peak.hi) rfl).1; have b11 := (hX.2 11 (.slice qb mb db) rfl).1; go_simp
              try with_reducible rfl
            try simp only [Act.put, List.getElem_toArray, List.getElem_cons_zero, List.getElem_cons_succ, List.setIfInBounds_toArray, List.set_cons_zero, List.set_cons_succ]
            refine wpAnyH_ready (rs := [4]) (by kernel_rfl) (by simp) ?_
            refine AllReadyH.cons (o := _) rfl (fun K hK => ?_) AllReadyH.nil
            go_simp
            (with_reducible refine (in62_any t.a bS.a _).mono ?_)
            rintro e v4 ⟨rfl, hb⟩
            rw [HI0.out]
            refine hK.out _ _ (⟨hS.1.step hb, hS.2.trans (hb.mono hS.2.size)⟩) (fun hS => ?_)
            clear hK K
            try simp only [List.setIfInBounds_toArray, List.set_cons_zero, List.set_cons_succ]
            refine tkH (i := 5) (v := ?_) (fun V hV => ?_) ?_
            rotate_left
            · go_simp
              try with_reducible rfl
            try simp only [Act.put, List.getElem_toArray, List.getElem_cons_zero, List.getElem_cons_succ, List.setIfInBounds_toArray, List.set_cons_zero, List.set_cons_succ]
            refine tkH (i := 6) (v := ?_) (fun V hV => ?_) ?_
            rotate_left
            · go_simp
              try with_reducible rfl
            try simp only [Act.put, List.getElem_toArray, List.getElem_cons_zero, List.getElem_cons_succ, List.setIfInBounds_toArray, List.set_cons_zero, List.set_cons_succ]
            refine tkH (i := 7) (v := ?_) (fun V hV => ?_) ?_
            rotate_left
            · have hX := HT.out.below hV.2; have t0 := (hX.2 0 (.int .i64 t.a) rfl).1; have t1 := (hX.2 1 (.int .i64 t.b) rfl).1; have t2 := (hX.2 2 (.int .i64 t.half) rfl).1; have t3 := (hX.2 3 (.int .i64 t.peak) rfl).1; go_simp
              try with_reducible rfl
            try simp only [Act.put, List.getElem_toArray, List.getElem_cons_zero, List.getElem_cons_succ, List.setIfInBounds_toArray, List.set_cons_zero, List.set_cons_succ]
            refine tkH (i := 8) (v := ?_) (fun V hV => ?_) ?_
            rotate_left
            · go_simp
              try with_reducible rfl
            try simp only [Act.put, List.getElem_toArray, List.getElem_cons_zero, List.getElem_cons_succ, List.setIfInBounds_toArray, List.set_cons_zero, List.set_cons_succ]
            refine tkH (i := 9) (v := ?_) (fun V hV => ?_) ?_
            rotate_left
            · have hX := HB.out.below hV.2; have b0 := (hX.2 0 (.int .i64 bS.wide) rfl).1; have b1 := (hX.2 1 (.int .i64 bS.high) rfl).1; have b2 := (hX.2 2 (.int .i64 bS.fall) rfl).1; have b3 := (hX.2 3 (.int .i64 bS.a.lo) rfl).1; have b4 := (hX.2 4 (.int .i64 bS.a.hi) rfl).1; have b5 := (hX.2 5 (.int .i64 bS.b.lo) rfl).1; have b6 := (hX.2 6 (.int .i64 bS.b.hi) rfl).1; have b7 := (hX.2 7 (.int .i64 bS.half.lo) rfl).1; have b8 := (hX.2 8 (.int .i64 bS.half.hi) rfl).1; have b9 := (hX.2 9 (.int .i64 bS.peak.lo) rfl).1; have b10 := (hX.2 10 (.int .i64 bS.peak.hi) rfl).1; have b11 := (hX.2 11 (.slice qb mb db) rfl).1; go_simp
              try with_reducible rfl
            try simp only [Act.put, List.getElem_toArray, List.getElem_cons_zero, List.getElem_cons_succ, List.setIfInBounds_toArray, List.set_cons_zero, List.set_cons_succ]
            refine wpAnyH_ready (rs := [10]) (by kernel_rfl) (by simp) ?_
            refine AllReadyH.cons (o := _) rfl (fun K hK => ?_) AllReadyH.nil
            go_simp
            (with_reducible refine (in62_any t.b bS.b _).mono ?_)
            rintro e v10 ⟨rfl, hb⟩
            rw [HI1.out]
            refine hK.out _ _ (⟨hS.1.step hb, hS.2.trans (hb.mono hS.2.size)⟩) (fun hS => ?_)
            clear hK K
            try simp only [List.setIfInBounds_toArray, List.set_cons_zero, List.set_cons_succ]
            refine tkH (i := 11) (v := ?_) (fun V hV => ?_) ?_
            rotate_left
            · go_simp
              try with_reducible rfl
            try simp only [Act.put, List.getElem_toArray, List.getElem_cons_zero, List.getElem_cons_succ, List.setIfInBounds_toArray, List.set_cons_zero, List.set_cons_succ]
            refine tkH (i := 12) (v := ?_) (fun V hV => ?_) ?_
            rotate_left
            · go_simp
              try with_reducible rfl
            try simp only [Act.put, List.getElem_toArray, List.getElem_cons_zero, List.getElem_cons_succ, List.setIfInBounds_toArray, List.set_cons_zero, List.set_cons_succ]
            refine tkH (i := 13) (v := ?_) (fun V hV => ?_) ?_
            rotate_left
            · go_simp
              try with_reducible rfl
            try simp only [Act.put, List.getElem_toArray, List.getElem_cons_zero, List.getElem_cons_succ, List.setIfInBounds_toArray, List.set_cons_zero, List.set_cons_succ]
            refine tkH (i := 14) (v := ?_) (fun V hV => ?_) ?_
            rotate_left
            · have hX := HT.out.below hV.2; have t0 := (hX.2 0 (.int .i64 t.a) rfl).1; have t1 := (hX.2 1 (.int .i64 t.b) rfl).1; have t2 := (hX.2 2 (.int .i64 t.half) rfl).1; have t3 := (hX.2 3 (.int .i64 t.peak) rfl).1; go_simp
              try with_reducible rfl
            try simp only [Act.put, List.getElem_toArray, List.getElem_cons_zero, List.getElem_cons_succ, List.setIfInBounds_toArray, List.set_cons_zero, List.set_cons_succ]
            refine tkH (i := 15) (v := ?_) (fun V hV => ?_) ?_
            rotate_left
            · go_simp
              try with_reducible rfl
            try simp only [Act.put, List.getElem_toArray, List.getElem_cons_zero, List.getElem_cons_succ, List.setIfInBounds_toArray, List.set_cons_zero, List.set_cons_succ]
            refine tkH (i := 16) (v := ?_) (fun V hV => ?_) ?_
            rotate_left
            · have hX := HB.out.below hV.2; have b0 := (hX.2 0 (.int .i64 bS.wide) rfl).1; have b1 := (hX.2 1 (.int .i64 bS.high) rfl).1; have b2 := (hX.2 2 (.int .i64 bS.fall) rfl).1; have b3 := (hX.2 3 (.int .i64 bS.a.lo) rfl).1; have b4 := (hX.2 4 (.int .i64 bS.a.hi) rfl).1; have b5 := (hX.2 5 (.int .i64 bS.b.lo) rfl).1; have b6 := (hX.2 6 (.int .i64 bS.b.hi) rfl).1; have b7 := (hX.2 7 (.int .i64 bS.half.lo) rfl).1; have b8 := (hX.2 8 (.int .i64 bS.half.hi) rfl).1; have b9 := (hX.2 9 (.int .i64 bS.peak.lo) rfl).1; have b10 := (hX.2 10 (.int .i64 bS.peak.hi) rfl).1; have b11 := (hX.2 11 (.slice qb mb db) rfl).1; go_simp
              try with_reducible rfl
            try simp only [Act.put, List.getElem_toArray, List.getElem_cons_zero, List.getElem_cons_succ, List.setIfInBounds_toArray, List.set_cons_zero, List.set_cons_succ]
            refine wpAnyH_ready (rs := [17]) (by kernel_rfl) (by simp) ?_
            refine AllReadyH.cons (o := _) rfl (fun K hK => ?_) AllReadyH.nil
            go_simp
            (with_reducible refine (in62_any t.half bS.half _).mono ?_)
            rintro e v17 ⟨rfl, hb⟩
            rw [HI2.out]
            refine hK.out _ _ (⟨hS.1.step hb, hS.2.trans (hb.mono hS.2.size)⟩) (fun hS => ?_)
            clear hK K
            try simp only [List.setIfInBounds_toArray, List.set_cons_zero, List.set_cons_succ]
            refine tkH (i := 18) (v := ?_) (fun V hV => ?_) ?_
            rotate_left
            · go_simp
              try with_reducible rfl
            try simp only [Act.put, List.getElem_toArray, List.getElem_cons_zero, List.getElem_cons_succ, List.setIfInBounds_toArray, List.set_cons_zero, List.set_cons_succ]
            refine tkH (i := 19) (v := ?_) (fun V hV => ?_) ?_
            rotate_left
            · go_simp
              try with_reducible rfl
            try simp only [Act.put, List.getElem_toArray, List.getElem_cons_zero, List.getElem_cons_succ, List.setIfInBounds_toArray, List.set_cons_zero, List.set_cons_succ]
            refine tkH (i := 20) (v := ?_) (fun V hV => ?_) ?_
            rotate_left
            · go_simp
              try with_reducible rfl
            try simp only [Act.put, List.getElem_toArray, List.getElem_cons_zero, List.getElem_cons_succ, List.setIfInBounds_toArray, List.set_cons_zero, List.set_cons_succ]
            refine tkH (i := 21) (v := ?_) (fun V hV => ?_) ?_
            rotate_left
            · have hX := HT.out.below hV.2; have t0 := (hX.2 0 (.int .i64 t.a) rfl).1; have t1 := (hX.2 1 (.int .i64 t.b) rfl).1; have t2 := (hX.2 2 (.int .i64 t.half) rfl).1; have t3 := (hX.2 3 (.int .i64 t.peak) rfl).1; go_simp
              try with_reducible rfl
            try simp only [Act.put, List.getElem_toArray, List.getElem_cons_zero, List.getElem_cons_succ, List.setIfInBounds_toArray, List.set_cons_zero, List.set_cons_succ]
            refine tkH (i := 22) (v := ?_) (fun V hV => ?_) ?_
            rotate_left
            · go_simp
              try with_reducible rfl
            try simp only [Act.put, List.getElem_toArray, List.getElem_cons_zero, List.getElem_cons_succ, List.setIfInBounds_toArray, List.set_cons_zero, List.set_cons_succ]
            refine tkH (i := 23) (v := ?_) (fun V hV => ?_) ?_
            rotate_left
            · have hX := HB.out.below hV.2; have b0 := (hX.2 0 (.int .i64 bS.wide) rfl).1; have b1 := (hX.2 1 (.int .i64 bS.high) rfl).1; have b2 := (hX.2 2 (.int .i64 bS.fall) rfl).1; have b3 := (hX.2 3 (.int .i64 bS.a.lo) rfl).1; have b4 := (hX.2 4 (.int .i64 bS.a.hi) rfl).1; have b5 := (hX.2 5 (.int .i64 bS.b.lo) rfl).1; have b6 := (hX.2 6 (.int .i64 bS.b.hi) rfl).1; have b7 := (hX.2 7 (.int .i64 bS.half.lo) rfl).1; have b8 := (hX.2 8 (.int .i64 bS.half.hi) rfl).1; have b9 := (hX.2 9 (.int .i64 bS.peak.lo) rfl).1; have b10 := (hX.2 10 (.int .i64 bS.peak.hi) rfl).1; have b11 := (hX.2 11 (.slice qb mb db) rfl).1; go_simp
              try with_reducible rfl
            try simp only [Act.put, List.getElem_toArray, List.getElem_cons_zero, List.getElem_cons_succ, List.setIfInBounds_toArray, List.set_cons_zero, List.set_cons_succ]
            refine wpAnyH_ready (rs := [24]) (by kernel_rfl) (by simp) ?_
            refine AllReadyH.cons (o := _) rfl (fun K hK => ?_) AllReadyH.nil
            go_simp
            (with_reducible refine (in62_any t.peak bS.peak _).mono ?_)
            rintro e v24 ⟨rfl, hb⟩
            rw [HI3.out]
            refine hK.out _ _ (⟨hS.1.step hb, hS.2.trans (hb.mono hS.2.size)⟩) (fun hS => ?_)
            clear hK K
            try simp only [List.setIfInBounds_toArray, List.set_cons_zero, List.set_cons_succ]
            refine tkH (i := 25) (v := ?_) (fun V hV => ?_) ?_
            rotate_left
            · go_simp
              try with_reducible rfl
            try simp only [Act.put, List.getElem_toArray, List.getElem_cons_zero, List.getElem_cons_succ, List.setIfInBounds_toArray, List.set_cons_zero, List.set_cons_succ]
            refine tkH (i := 26) (v := ?_) (fun V hV => ?_) ?_
            rotate_left
            · go_simp
              try with_reducible rfl
            try simp only [Act.put, List.getElem_toArray, List.getElem_cons_zero, List.getElem_cons_succ, List.setIfInBounds_toArray, List.set_cons_zero, List.set_cons_succ]
            refine tkH (i := 27) (v := ?_) (fun V hV => ?_) ?_
            rotate_left
            · have hX := HX.out.below hV.2; have e0 := (hX.2 0 (.int .i64 x.wide) rfl).1; have e1 := (hX.2 1 (.int .i64 x.high) rfl).1; have e2 := (hX.2 2 (.int .i64 x.fall) rfl).1; have e3 := (hX.2 3 (.int .i64 x.a.lo) rfl).1; have e4 := (hX.2 4 (.int .i64 x.a.hi) rfl).1; have e5 := (hX.2 5 (.int .i64 x.b.lo) rfl).1; have e6 := (hX.2 6 (.int .i64 x.b.hi) rfl).1; have e7 := (hX.2 7 (.int .i64 x.half.lo) rfl).1; have e8 := (hX.2 8 (.int .i64 x.half.hi) rfl).1; have e9 := (hX.2 9 (.int .i64 x.peak.lo) rfl).1; have e10 := (hX.2 10 (.int .i64 x.peak.hi) rfl).1; have e11 := (hX.2 11 (.slice q m d) rfl).1; go_simp
              try with_reducible rfl
            try simp only [Act.put, List.getElem_toArray, List.getElem_cons_zero, List.getElem_cons_succ, List.setIfInBounds_toArray, List.set_cons_zero, List.set_cons_succ]
            refine tkH (i := 28) (v := ?_) (fun V hV => ?_) ?_
            rotate_left
            · have hX := HT.out.below hV.2; have t0 := (hX.2 0 (.int .i64 t.a) rfl).1; have t1 := (hX.2 1 (.int .i64 t.b) rfl).1; have t2 := (hX.2 2 (.int .i64 t.half) rfl).1; have t3 := (hX.2 3 (.int .i64 t.peak) rfl).1; go_simp
              try with_reducible rfl
            try simp only [Act.put, List.getElem_toArray, List.getElem_cons_zero, List.getElem_cons_succ, List.setIfInBounds_toArray, List.set_cons_zero, List.set_cons_succ]
            refine tkH (i := 29) (v := ?_) (fun V hV => ?_) ?_
            rotate_left
            · go_simp
              try with_reducible rfl
            try simp only [Act.put, List.getElem_toArray, List.getElem_cons_zero, List.getElem_cons_succ, List.setIfInBounds_toArray, List.set_cons_zero, List.set_cons_succ]
            refine tkH (i := 30) (v := ?_) (fun V hV => ?_) ?_
            rotate_left
            · go_simp
              try with_reducible rfl
            try simp only [Act.put, List.getElem_toArray, List.getElem_cons_zero, List.getElem_cons_succ, List.setIfInBounds_toArray, List.set_cons_zero, List.set_cons_succ]
            refine tkH (i := 31) (v := ?_) (fun V hV => ?_) ?_
            rotate_left
            · have hX := HR.out.below hV.2; have d0 := (hX.2 0 (.int .i64 bx.lo) rfl).1; have d1 := (hX.2 1 (.int .i64 bx.hi) rfl).1; have d2 := (hX.2 2 (.int .i64 bY.lo) rfl).1; have d3 := (hX.2 3 (.int .i64 bY.hi) rfl).1; go_simp
              try with_reducible rfl
            try simp only [Act.put, List.getElem_toArray, List.getElem_cons_zero, List.getElem_cons_succ, List.setIfInBounds_toArray, List.set_cons_zero, List.set_cons_succ]
            refine tkH (i := 32) (v := ?_) (fun V hV => ?_) ?_
            rotate_left
            · go_simp
              try with_reducible rfl
            try simp only [Act.put, List.getElem_toArray, List.getElem_cons_zero, List.getElem_cons_succ, List.setIfInBounds_toArray, List.set_cons_zero, List.set_cons_succ]
            refine tkH (i := 33) (v := ?_) (fun V hV => ?_) ?_
            rotate_left
            · go_simp
              try with_reducible rfl
            try simp only [Act.put, List.getElem_toArray, List.getElem_cons_zero, List.getElem_cons_succ, List.setIfInBounds_toArray, List.set_cons_zero, List.set_cons_succ]
            refine tkH (i := 34) (v := ?_) (fun V hV => ?_) ?_
            rotate_left
            · have hX := HR.out.below hV.2; have d0 := (hX.2 0 (.int .i64 bx.lo) rfl).1; have d1 := (hX.2 1 (.int .i64 bx.hi) rfl).1; have d2 := (hX.2 2 (.int .i64 bY.lo) rfl).1; have d3 := (hX.2 3 (.int .i64 bY.hi) rfl).1; go_simp
              try with_reducible rfl
            try simp only [Act.put, List.getElem_toArray, List.getElem_cons_zero, List.getElem_cons_succ, List.setIfInBounds_toArray, List.set_cons_zero, List.set_cons_succ]
            refine tkH (i := 36) (v := ?_) (fun V hV => ?_) ?_
            rotate_left
            · have hX := HZ.out.below hV.2; have z0 := (hX.2 0 (.int .i64 R.lo) rfl).1; have z1 := (hX.2 1 (.int .i64 R.hi) rfl).1; go_simp
              try with_reducible rfl
            try simp only [Act.put, List.getElem_toArray, List.getElem_cons_zero, List.getElem_cons_succ, List.setIfInBounds_toArray, List.set_cons_zero, List.set_cons_succ]
            refine wpAnyH_ready (rs := [35]) (by kernel_rfl) (by simp) ?_
            refine AllReadyH.cons (o := _) rfl (fun K hK => ?_) AllReadyH.nil
            go_simp
            (with_reducible refine (sizeR_any x q m d t bx.lo bY.lo _ HSS.out HST.out (by have := HRB.out; omega) (by have := HRB.out; omega) (by have := HRB.out; omega) (by have := HRB.out; omega)).mono ?_)
            rintro e v35 ⟨rfl, hb⟩
            refine hK.out _ _ (⟨hS.1.step hb, hS.2.trans (hb.mono hS.2.size)⟩) (fun hS => ?_)
            clear hK K
            try simp only [List.setIfInBounds_toArray, List.set_cons_zero, List.set_cons_succ]
            refine wpAnyH_ready (rs := [37]) (by kernel_rfl) (by simp) ?_
            refine AllReadyH.cons (o := _) rfl (fun K hK => ?_) AllReadyH.nil
            go_simp
            (with_reducible refine (in62_any (sizeS x t bx.lo bY.lo) R _).mono ?_)
            rintro e v37 ⟨rfl, hb⟩
            rw [HIS.out]
            refine hK.out _ _ (⟨hS.1.step hb, hS.2.trans (hb.mono hS.2.size)⟩) (fun hS => ?_)
            clear hK K
            try simp only [List.setIfInBounds_toArray, List.set_cons_zero, List.set_cons_succ]
            refine tkH (i := 38) (v := ?_) (fun V hV => ?_) ?_
            rotate_left
            · go_simp
              try with_reducible rfl
            try simp only [Act.put, List.getElem_toArray, List.getElem_cons_zero, List.getElem_cons_succ, List.setIfInBounds_toArray, List.set_cons_zero, List.set_cons_succ]
            refine tkH (i := 39) (v := ?_) (fun V hV => ?_) ?_
            rotate_left
            · go_simp
              try with_reducible rfl
            try simp only [Act.put, List.getElem_toArray, List.getElem_cons_zero, List.getElem_cons_succ, List.setIfInBounds_toArray, List.set_cons_zero, List.set_cons_succ]
            refine tkH (i := 40) (v := ?_) (fun V hV => ?_) ?_
            rotate_left
            · go_simp
              try with_reducible rfl
            try simp only [Act.put, List.getElem_toArray, List.getElem_cons_zero, List.getElem_cons_succ, List.setIfInBounds_toArray, List.set_cons_zero, List.set_cons_succ]
            refine tkH (i := 41) (v := ?_) (fun V hV => ?_) ?_
            rotate_left
            · have hv1 := HVK.out.1; have hv2 := HVK.out.2; go_simp
              try with_reducible rfl
            try simp only [Act.put, List.getElem_toArray, List.getElem_cons_zero, List.getElem_cons_succ, List.setIfInBounds_toArray, List.set_cons_zero, List.set_cons_succ]
            refine tkH (i := 42) (v := ?_) (fun V hV => ?_) ?_
            rotate_left
            · go_simp
              try with_reducible rfl
            try simp only [Act.put, List.getElem_toArray, List.getElem_cons_zero, List.getElem_cons_succ, List.setIfInBounds_toArray, List.set_cons_zero, List.set_cons_succ]
            refine tkU (i := 43) ?_
            try simp only [Act.put, List.getElem_toArray, List.getElem_cons_zero, List.getElem_cons_succ, List.setIfInBounds_toArray, List.set_cons_zero, List.set_cons_succ]
            refine tkH (i := 44) (v := ?_) (fun V hV => ?_) ?_
            rotate_left
            · go_simp
              try with_reducible rfl
            try simp only [Act.put, List.getElem_toArray, List.getElem_cons_zero, List.getElem_cons_succ, List.setIfInBounds_toArray, List.set_cons_zero, List.set_cons_succ]
            refine tkH (i := 45) (v := ?_) (fun V hV => ?_) ?_
            rotate_left
            · go_simp
              try with_reducible rfl
            try simp only [Act.put, List.getElem_toArray, List.getElem_cons_zero, List.getElem_cons_succ, List.setIfInBounds_toArray, List.set_cons_zero, List.set_cons_succ]
            refine tkH (i := 46) (v := ?_) (fun V hV => ?_) ?_
            rotate_left
            · go_simp
              try with_reducible rfl
            try simp only [Act.put, List.getElem_toArray, List.getElem_cons_zero, List.getElem_cons_succ, List.setIfInBounds_toArray, List.set_cons_zero, List.set_cons_succ]
            refine tkH (i := 47) (v := ?_) (fun V hV => ?_) ?_
            rotate_left
            · go_simp
              try with_reducible rfl
            try simp only [Act.put, List.getElem_toArray, List.getElem_cons_zero, List.getElem_cons_succ, List.setIfInBounds_toArray, List.set_cons_zero, List.set_cons_succ]
            refine tkH (i := 48) (v := ?_) (fun V hV => ?_) ?_
            rotate_left
            · have hv1 := HVK.out.1; have hv2 := HVK.out.2; go_simp
              try with_reducible rfl
            try simp only [Act.put, List.getElem_toArray, List.getElem_cons_zero, List.getElem_cons_succ, List.setIfInBounds_toArray, List.set_cons_zero, List.set_cons_succ]
            refine tkH (i := 49) (v := ?_) (fun V hV => ?_) ?_
            rotate_left
            · go_simp
              try with_reducible rfl
            try simp only [Act.put, List.getElem_toArray, List.getElem_cons_zero, List.getElem_cons_succ, List.setIfInBounds_toArray, List.set_cons_zero, List.set_cons_succ]
            refine tkH (i := 50) (v := ?_) (fun V hV => ?_) ?_
            rotate_left
            · go_simp
              try with_reducible rfl
            try simp only [Act.put, List.getElem_toArray, List.getElem_cons_zero, List.getElem_cons_succ, List.setIfInBounds_toArray, List.set_cons_zero, List.set_cons_succ]
            refine tkH (i := 51) (v := ?_) (fun V hV => ?_) ?_
            rotate_left
            · go_simp
              try with_reducible rfl
            try simp only [Act.put, List.getElem_toArray, List.getElem_cons_zero, List.getElem_cons_succ, List.setIfInBounds_toArray, List.set_cons_zero, List.set_cons_succ]
            refine tkH (i := 52) (v := ?_) (fun V hV => ?_) ?_
            rotate_left
            · go_simp
              try with_reducible rfl
            try simp only [Act.put, List.getElem_toArray, List.getElem_cons_zero, List.getElem_cons_succ, List.setIfInBounds_toArray, List.set_cons_zero, List.set_cons_succ]
            refine tkH (i := 53) (v := ?_) (fun V hV => ?_) ?_
            rotate_left
            · go_simp
              try with_reducible rfl
            try simp only [Act.put, List.getElem_toArray, List.getElem_cons_zero, List.getElem_cons_succ, List.setIfInBounds_toArray, List.set_cons_zero, List.set_cons_succ]
            refine tkH (i := 54) (v := ?_) (fun V hV => ?_) ?_
            rotate_left
            · go_simp
              try with_reducible rfl
            try simp only [Act.put, List.getElem_toArray, List.getElem_cons_zero, List.getElem_cons_succ, List.setIfInBounds_toArray, List.set_cons_zero, List.set_cons_succ]
            refine wpAnyH_ready (rs := [55]) (by kernel_rfl) (by simp) ?_
            refine AllReadyH.cons (o := _) rfl (fun K hK => ?_) AllReadyH.nil
            go_simp
            refine (awake_any _).mono ?_
            rintro e v55 ⟨rfl, hb⟩
            refine hK.out _ _ (⟨hS.1.step hb, hS.2.trans (hb.mono hS.2.size)⟩) (fun hS => ?_)
            clear hK K
            try simp only [List.setIfInBounds_toArray, List.set_cons_zero, List.set_cons_succ]
            refine tkH (i := 56) (v := ?_) (fun V hV => ?_) ?_
            rotate_left
            · go_simp
              try with_reducible rfl
            try simp only [Act.put, List.getElem_toArray, List.getElem_cons_zero, List.getElem_cons_succ, List.setIfInBounds_toArray, List.set_cons_zero, List.set_cons_succ]
            refine tkH (i := 57) (v := ?_) (fun V hV => ?_) ?_
            rotate_left
            · go_simp
              try with_reducible rfl
            try simp only [Act.put, List.getElem_toArray, List.getElem_cons_zero, List.getElem_cons_succ, List.setIfInBounds_toArray, List.set_cons_zero, List.set_cons_succ]
            refine wpAnyH_done (by kernel_rfl) ?_ _
            go_wp2_with fail
            go_ret
            exact ⟨rfl, hS.1.below⟩
          · have HVK : Hid ((V != 1) = true ∧ (V != 2) = true) := hid ⟨by simpa using h1, by simpa using h2⟩
            clear hov h1 h2
            refine wp_region_held_drew (S := fun V => Boxed1 w #[.int .i64 s.wide, .int .i64 s.high, .int .i64 s.fall, .int .i64 s.a.lo, .int .i64 s.a.hi, .int .i64 s.b.lo, .int .i64 s.b.hi, .int .i64 s.half.lo, .int .i64 s.half.hi, .int .i64 s.peak.lo, .int .i64 s.peak.hi, .slice p n c] 26 V ∧ Below w35.heap.size w35 V) (by kernel_rfl) (⟨H35.out.drew, (Below.refl _ _).drew⟩) (fun hS => ?_)
            simp only [List.size_toArray, List.length_cons, List.length_nil, Nat.reduceAdd, Array.replicate_succ, Array.replicate_zero, List.push_toArray, List.nil_append, List.cons_append]
            refine tkH (i := 0) (v := ?_) (fun V hV => ?_) ?_
            rotate_left
            · go_simp
              try with_reducible rfl
            try simp only [Act.put, List.getElem_toArray, List.getElem_cons_zero, List.setIfInBounds_toArray, List.set_cons_zero, List.set_cons_succ]
            refine tkH (i := 1) (v := ?_) (fun V hV => ?_) ?_
            rotate_left
            · have hX := HT.out.below hV.2; have t0 := (hX.2 0 (.int .i64 t.a) rfl).1; have t1 := (hX.2 1 (.int .i64 t.b) rfl).1; have t2 := (hX.2 2 (.int .i64 t.half) rfl).1; have t3 := (hX.2 3 (.int .i64 t.peak) rfl).1; go_simp
              try with_reducible rfl
            try simp only [Act.put, List.getElem_toArray, List.getElem_cons_zero, List.getElem_cons_succ, List.setIfInBounds_toArray, List.set_cons_zero, List.set_cons_succ]
            refine tkH (i := 2) (v := ?_) (fun V hV => ?_) ?_
            rotate_left
            · go_simp
              try with_reducible rfl
            try simp only [Act.put, List.getElem_toArray, List.getElem_cons_zero, List.getElem_cons_succ, List.setIfInBounds_toArray, List.set_cons_zero, List.set_cons_succ]
            refine tkH (i := 3) (v := ?_) (fun V hV => ?_) ?_
            rotate_left
            · have hX := HB.out.below hV.2; have b0 := (hX.2 0 (.int .i64 bS.wide) rfl).1; have b1 := (hX.2 1 (.int .i64 bS.high) rfl).1; have b2 := (hX.2 2 (.int .i64 bS.fall) rfl).1; have b3 := (hX.2 3 (.int .i64 bS.a.lo) rfl).1; have b4 := (hX.2 4 (.int .i64 bS.a.hi) rfl).1; have b5 := (hX.2 5 (.int .i64 bS.b.lo) rfl).1; have b6 := (hX.2 6 (.int .i64 bS.b.hi) rfl).1; have b7 := (hX.2 7 (.int .i64 bS.half.lo) rfl).1; have b8 := (hX.2 8 (.int .i64 bS.half.hi) rfl).1; have b9 := (hX.2 9 (.int .i64 bS.peak.lo) rfl).1; have b10 := (hX.2 10 (.int .i64 bS.peak.hi) rfl).1; have b11 := (hX.2 11 (.slice qb mb db) rfl).1; go_simp
              try with_reducible rfl
            try simp only [Act.put, List.getElem_toArray, List.getElem_cons_zero, List.getElem_cons_succ, List.setIfInBounds_toArray, List.set_cons_zero, List.set_cons_succ]
            refine wpAnyH_ready (rs := [4]) (by kernel_rfl) (by simp) ?_
            refine AllReadyH.cons (o := _) rfl (fun K hK => ?_) AllReadyH.nil
            go_simp
            (with_reducible refine (in62_any t.a bS.a _).mono ?_)
            rintro e v4 ⟨rfl, hb⟩
            rw [HI0.out]
            refine hK.out _ _ (⟨hS.1.step hb, hS.2.trans (hb.mono hS.2.size)⟩) (fun hS => ?_)
            clear hK K
            try simp only [List.setIfInBounds_toArray, List.set_cons_zero, List.set_cons_succ]
            refine tkH (i := 5) (v := ?_) (fun V hV => ?_) ?_
            rotate_left
            · go_simp
              try with_reducible rfl
            try simp only [Act.put, List.getElem_toArray, List.getElem_cons_zero, List.getElem_cons_succ, List.setIfInBounds_toArray, List.set_cons_zero, List.set_cons_succ]
            refine tkH (i := 6) (v := ?_) (fun V hV => ?_) ?_
            rotate_left
            · go_simp
              try with_reducible rfl
            try simp only [Act.put, List.getElem_toArray, List.getElem_cons_zero, List.getElem_cons_succ, List.setIfInBounds_toArray, List.set_cons_zero, List.set_cons_succ]
            refine tkH (i := 7) (v := ?_) (fun V hV => ?_) ?_
            rotate_left
            · have hX := HT.out.below hV.2; have t0 := (hX.2 0 (.int .i64 t.a) rfl).1; have t1 := (hX.2 1 (.int .i64 t.b) rfl).1; have t2 := (hX.2 2 (.int .i64 t.half) rfl).1; have t3 := (hX.2 3 (.int .i64 t.peak) rfl).1; go_simp
              try with_reducible rfl
            try simp only [Act.put, List.getElem_toArray, List.getElem_cons_zero, List.getElem_cons_succ, List.setIfInBounds_toArray, List.set_cons_zero, List.set_cons_succ]
            refine tkH (i := 8) (v := ?_) (fun V hV => ?_) ?_
            rotate_left
            · go_simp
              try with_reducible rfl
            try simp only [Act.put, List.getElem_toArray, List.getElem_cons_zero, List.getElem_cons_succ, List.setIfInBounds_toArray, List.set_cons_zero, List.set_cons_succ]
            refine tkH (i := 9) (v := ?_) (fun V hV => ?_) ?_
            rotate_left
            · have hX := HB.out.below hV.2; have b0 := (hX.2 0 (.int .i64 bS.wide) rfl).1; have b1 := (hX.2 1 (.int .i64 bS.high) rfl).1; have b2 := (hX.2 2 (.int .i64 bS.fall) rfl).1; have b3 := (hX.2 3 (.int .i64 bS.a.lo) rfl).1; have b4 := (hX.2 4 (.int .i64 bS.a.hi) rfl).1; have b5 := (hX.2 5 (.int .i64 bS.b.lo) rfl).1; have b6 := (hX.2 6 (.int .i64 bS.b.hi) rfl).1; have b7 := (hX.2 7 (.int .i64 bS.half.lo) rfl).1; have b8 := (hX.2 8 (.int .i64 bS.half.hi) rfl).1; have b9 := (hX.2 9 (.int .i64 bS.peak.lo) rfl).1; have b10 := (hX.2 10 (.int .i64 bS.peak.hi) rfl).1; have b11 := (hX.2 11 (.slice qb mb db) rfl).1; go_simp
              try with_reducible rfl
            try simp only [Act.put, List.getElem_toArray, List.getElem_cons_zero, List.getElem_cons_succ, List.setIfInBounds_toArray, List.set_cons_zero, List.set_cons_succ]
            refine wpAnyH_ready (rs := [10]) (by kernel_rfl) (by simp) ?_
            refine AllReadyH.cons (o := _) rfl (fun K hK => ?_) AllReadyH.nil
            go_simp
            (with_reducible refine (in62_any t.b bS.b _).mono ?_)
            rintro e v10 ⟨rfl, hb⟩
            rw [HI1.out]
            refine hK.out _ _ (⟨hS.1.step hb, hS.2.trans (hb.mono hS.2.size)⟩) (fun hS => ?_)
            clear hK K
            try simp only [List.setIfInBounds_toArray, List.set_cons_zero, List.set_cons_succ]
            refine tkH (i := 11) (v := ?_) (fun V hV => ?_) ?_
            rotate_left
            · go_simp
              try with_reducible rfl
            try simp only [Act.put, List.getElem_toArray, List.getElem_cons_zero, List.getElem_cons_succ, List.setIfInBounds_toArray, List.set_cons_zero, List.set_cons_succ]
            refine tkH (i := 12) (v := ?_) (fun V hV => ?_) ?_
            rotate_left
            · go_simp
              try with_reducible rfl
            try simp only [Act.put, List.getElem_toArray, List.getElem_cons_zero, List.getElem_cons_succ, List.setIfInBounds_toArray, List.set_cons_zero, List.set_cons_succ]
            refine tkH (i := 13) (v := ?_) (fun V hV => ?_) ?_
            rotate_left
            · go_simp
              try with_reducible rfl
            try simp only [Act.put, List.getElem_toArray, List.getElem_cons_zero, List.getElem_cons_succ, List.setIfInBounds_toArray, List.set_cons_zero, List.set_cons_succ]
            refine tkH (i := 14) (v := ?_) (fun V hV => ?_) ?_
            rotate_left
            · have hX := HT.out.below hV.2; have t0 := (hX.2 0 (.int .i64 t.a) rfl).1; have t1 := (hX.2 1 (.int .i64 t.b) rfl).1; have t2 := (hX.2 2 (.int .i64 t.half) rfl).1; have t3 := (hX.2 3 (.int .i64 t.peak) rfl).1; go_simp
              try with_reducible rfl
            try simp only [Act.put, List.getElem_toArray, List.getElem_cons_zero, List.getElem_cons_succ, List.setIfInBounds_toArray, List.set_cons_zero, List.set_cons_succ]
            refine tkH (i := 15) (v := ?_) (fun V hV => ?_) ?_
            rotate_left
            · go_simp
              try with_reducible rfl
            try simp only [Act.put, List.getElem_toArray, List.getElem_cons_zero, List.getElem_cons_succ, List.setIfInBounds_toArray, List.set_cons_zero, List.set_cons_succ]
            refine tkH (i := 16) (v := ?_) (fun V hV => ?_) ?_
            rotate_left
            · have hX := HB.out.below hV.2; have b0 := (hX.2 0 (.int .i64 bS.wide) rfl).1; have b1 := (hX.2 1 (.int .i64 bS.high) rfl).1; have b2 := (hX.2 2 (.int .i64 bS.fall) rfl).1; have b3 := (hX.2 3 (.int .i64 bS.a.lo) rfl).1; have b4 := (hX.2 4 (.int .i64 bS.a.hi) rfl).1; have b5 := (hX.2 5 (.int .i64 bS.b.lo) rfl).1; have b6 := (hX.2 6 (.int .i64 bS.b.hi) rfl).1; have b7 := (hX.2 7 (.int .i64 bS.half.lo) rfl).1; have b8 := (hX.2 8 (.int .i64 bS.half.hi) rfl).1; have b9 := (hX.2 9 (.int .i64 bS.peak.lo) rfl).1; have b10 := (hX.2 10 (.int .i64 bS.peak.hi) rfl).1; have b11 := (hX.2 11 (.slice qb mb db) rfl).1; go_simp
              try with_reducible rfl
            try simp only [Act.put, List.getElem_toArray, List.getElem_cons_zero, List.getElem_cons_succ, List.setIfInBounds_toArray, List.set_cons_zero, List.set_cons_succ]
            refine wpAnyH_ready (rs := [17]) (by kernel_rfl) (by simp) ?_
            refine AllReadyH.cons (o := _) rfl (fun K hK => ?_) AllReadyH.nil
            go_simp
            (with_reducible refine (in62_any t.half bS.half _).mono ?_)
            rintro e v17 ⟨rfl, hb⟩
            rw [HI2.out]
            refine hK.out _ _ (⟨hS.1.step hb, hS.2.trans (hb.mono hS.2.size)⟩) (fun hS => ?_)
            clear hK K
            try simp only [List.setIfInBounds_toArray, List.set_cons_zero, List.set_cons_succ]
            refine tkH (i := 18) (v := ?_) (fun V hV => ?_) ?_
            rotate_left
            · go_simp
              try with_reducible rfl
            try simp only [Act.put, List.getElem_toArray, List.getElem_cons_zero, List.getElem_cons_succ, List.setIfInBounds_toArray, List.set_cons_zero, List.set_cons_succ]
            refine tkH (i := 19) (v := ?_) (fun V hV => ?_) ?_
            rotate_left
            · go_simp
              try with_reducible rfl
            try simp only [Act.put, List.getElem_toArray, List.getElem_cons_zero, List.getElem_cons_succ, List.setIfInBounds_toArray, List.set_cons_zero, List.set_cons_succ]
            refine tkH (i := 20) (v := ?_) (fun V hV => ?_) ?_
            rotate_left
            · go_simp
              try with_reducible rfl
            try simp only [Act.put, List.getElem_toArray, List.getElem_cons_zero, List.getElem_cons_succ, List.setIfInBounds_toArray, List.set_cons_zero, List.set_cons_succ]
            refine tkH (i := 21) (v := ?_) (fun V hV => ?_) ?_
            rotate_left
            · have hX := HT.out.below hV.2; have t0 := (hX.2 0 (.int .i64 t.a) rfl).1; have t1 := (hX.2 1 (.int .i64 t.b) rfl).1; have t2 := (hX.2 2 (.int .i64 t.half) rfl).1; have t3 := (hX.2 3 (.int .i64 t.peak) rfl).1; go_simp
              try with_reducible rfl
            try simp only [Act.put, List.getElem_toArray, List.getElem_cons_zero, List.getElem_cons_succ, List.setIfInBounds_toArray, List.set_cons_zero, List.set_cons_succ]
            refine tkH (i := 22) (v := ?_) (fun V hV => ?_) ?_
            rotate_left
            · go_simp
              try with_reducible rfl
            try simp only [Act.put, List.getElem_toArray, List.getElem_cons_zero, List.getElem_cons_succ, List.setIfInBounds_toArray, List.set_cons_zero, List.set_cons_succ]
            refine tkH (i := 23) (v := ?_) (fun V hV => ?_) ?_
            rotate_left
            · have hX := HB.out.below hV.2; have b0 := (hX.2 0 (.int .i64 bS.wide) rfl).1; have b1 := (hX.2 1 (.int .i64 bS.high) rfl).1; have b2 := (hX.2 2 (.int .i64 bS.fall) rfl).1; have b3 := (hX.2 3 (.int .i64 bS.a.lo) rfl).1; have b4 := (hX.2 4 (.int .i64 bS.a.hi) rfl).1; have b5 := (hX.2 5 (.int .i64 bS.b.lo) rfl).1; have b6 := (hX.2 6 (.int .i64 bS.b.hi) rfl).1; have b7 := (hX.2 7 (.int .i64 bS.half.lo) rfl).1; have b8 := (hX.2 8 (.int .i64 bS.half.hi) rfl).1; have b9 := (hX.2 9 (.int .i64 bS.peak.lo) rfl).1; have b10 := (hX.2 10 (.int .i64 bS.peak.hi) rfl).1; have b11 := (hX.2 11 (.slice qb mb db) rfl).1; go_simp
              try with_reducible rfl
            try simp only [Act.put, List.getElem_toArray, List.getElem_cons_zero, List.getElem_cons_succ, List.setIfInBounds_toArray, List.set_cons_zero, List.set_cons_succ]
            refine wpAnyH_ready (rs := [24]) (by kernel_rfl) (by simp) ?_
            refine AllReadyH.cons (o := _) rfl (fun K hK => ?_) AllReadyH.nil
            go_simp
            (with_reducible refine (in62_any t.peak bS.peak _).mono ?_)
            rintro e v24 ⟨rfl, hb⟩
            rw [HI3.out]
            refine hK.out _ _ (⟨hS.1.step hb, hS.2.trans (hb.mono hS.2.size)⟩) (fun hS => ?_)
            clear hK K
            try simp only [List.setIfInBounds_toArray, List.set_cons_zero, List.set_cons_succ]
            refine tkH (i := 25) (v := ?_) (fun V hV => ?_) ?_
            rotate_left
            · go_simp
              try with_reducible rfl
            try simp only [Act.put, List.getElem_toArray, List.getElem_cons_zero, List.getElem_cons_succ, List.setIfInBounds_toArray, List.set_cons_zero, List.set_cons_succ]
            refine tkH (i := 26) (v := ?_) (fun V hV => ?_) ?_
            rotate_left
            · go_simp
              try with_reducible rfl
            try simp only [Act.put, List.getElem_toArray, List.getElem_cons_zero, List.getElem_cons_succ, List.setIfInBounds_toArray, List.set_cons_zero, List.set_cons_succ]
            refine tkH (i := 27) (v := ?_) (fun V hV => ?_) ?_
            rotate_left
            · have hX := HX.out.below hV.2; have e0 := (hX.2 0 (.int .i64 x.wide) rfl).1; have e1 := (hX.2 1 (.int .i64 x.high) rfl).1; have e2 := (hX.2 2 (.int .i64 x.fall) rfl).1; have e3 := (hX.2 3 (.int .i64 x.a.lo) rfl).1; have e4 := (hX.2 4 (.int .i64 x.a.hi) rfl).1; have e5 := (hX.2 5 (.int .i64 x.b.lo) rfl).1; have e6 := (hX.2 6 (.int .i64 x.b.hi) rfl).1; have e7 := (hX.2 7 (.int .i64 x.half.lo) rfl).1; have e8 := (hX.2 8 (.int .i64 x.half.hi) rfl).1; have e9 := (hX.2 9 (.int .i64 x.peak.lo) rfl).1; have e10 := (hX.2 10 (.int .i64 x.peak.hi) rfl).1; have e11 := (hX.2 11 (.slice q m d) rfl).1; go_simp
              try with_reducible rfl
            try simp only [Act.put, List.getElem_toArray, List.getElem_cons_zero, List.getElem_cons_succ, List.setIfInBounds_toArray, List.set_cons_zero, List.set_cons_succ]
            refine tkH (i := 28) (v := ?_) (fun V hV => ?_) ?_
            rotate_left
            · have hX := HT.out.below hV.2; have t0 := (hX.2 0 (.int .i64 t.a) rfl).1; have t1 := (hX.2 1 (.int .i64 t.b) rfl).1; have t2 := (hX.2 2 (.int .i64 t.half) rfl).1; have t3 := (hX.2 3 (.int .i64 t.peak) rfl).1; go_simp
              try with_reducible rfl
            try simp only [Act.put, List.getElem_toArray, List.getElem_cons_zero, List.getElem_cons_succ, List.setIfInBounds_toArray, List.set_cons_zero, List.set_cons_succ]
            refine tkH (i := 29) (v := ?_) (fun V hV => ?_) ?_
            rotate_left
            · go_simp
              try with_reducible rfl
            try simp only [Act.put, List.getElem_toArray, List.getElem_cons_zero, List.getElem_cons_succ, List.setIfInBounds_toArray, List.set_cons_zero, List.set_cons_succ]
            refine tkH (i := 30) (v := ?_) (fun V hV => ?_) ?_
            rotate_left
            · go_simp
              try with_reducible rfl
            try simp only [Act.put, List.getElem_toArray, List.getElem_cons_zero, List.getElem_cons_succ, List.setIfInBounds_toArray, List.set_cons_zero, List.set_cons_succ]
            refine tkH (i := 31) (v := ?_) (fun V hV => ?_) ?_
            rotate_left
            · have hX := HR.out.below hV.2; have d0 := (hX.2 0 (.int .i64 bx.lo) rfl).1; have d1 := (hX.2 1 (.int .i64 bx.hi) rfl).1; have d2 := (hX.2 2 (.int .i64 bY.lo) rfl).1; have d3 := (hX.2 3 (.int .i64 bY.hi) rfl).1; go_simp
              try with_reducible rfl
            try simp only [Act.put, List.getElem_toArray, List.getElem_cons_zero, List.getElem_cons_succ, List.setIfInBounds_toArray, List.set_cons_zero, List.set_cons_succ]
            refine tkH (i := 32) (v := ?_) (fun V hV => ?_) ?_
            rotate_left
            · go_simp
              try with_reducible rfl
            try simp only [Act.put, List.getElem_toArray, List.getElem_cons_zero, List.getElem_cons_succ, List.setIfInBounds_toArray, List.set_cons_zero, List.set_cons_succ]
            refine tkH (i := 33) (v := ?_) (fun V hV => ?_) ?_
            rotate_left
            · go_simp
              try with_reducible rfl
            try simp only [Act.put, List.getElem_toArray, List.getElem_cons_zero, List.getElem_cons_succ, List.setIfInBounds_toArray, List.set_cons_zero, List.set_cons_succ]
            refine tkH (i := 34) (v := ?_) (fun V hV => ?_) ?_
            rotate_left
            · have hX := HR.out.below hV.2; have d0 := (hX.2 0 (.int .i64 bx.lo) rfl).1; have d1 := (hX.2 1 (.int .i64 bx.hi) rfl).1; have d2 := (hX.2 2 (.int .i64 bY.lo) rfl).1; have d3 := (hX.2 3 (.int .i64 bY.hi) rfl).1; go_simp
              try with_reducible rfl
            try simp only [Act.put, List.getElem_toArray, List.getElem_cons_zero, List.getElem_cons_succ, List.setIfInBounds_toArray, List.set_cons_zero, List.set_cons_succ]
            refine tkH (i := 36) (v := ?_) (fun V hV => ?_) ?_
            rotate_left
            · have hX := HZ.out.below hV.2; have z0 := (hX.2 0 (.int .i64 R.lo) rfl).1; have z1 := (hX.2 1 (.int .i64 R.hi) rfl).1; go_simp
              try with_reducible rfl
            try simp only [Act.put, List.getElem_toArray, List.getElem_cons_zero, List.getElem_cons_succ, List.setIfInBounds_toArray, List.set_cons_zero, List.set_cons_succ]
            refine wpAnyH_ready (rs := [35]) (by kernel_rfl) (by simp) ?_
            refine AllReadyH.cons (o := _) rfl (fun K hK => ?_) AllReadyH.nil
            go_simp
            (with_reducible refine (sizeR_any x q m d t bx.lo bY.lo _ HSS.out HST.out (by have := HRB.out; omega) (by have := HRB.out; omega) (by have := HRB.out; omega) (by have := HRB.out; omega)).mono ?_)
            rintro e v35 ⟨rfl, hb⟩
            refine hK.out _ _ (⟨hS.1.step hb, hS.2.trans (hb.mono hS.2.size)⟩) (fun hS => ?_)
            clear hK K
            try simp only [List.setIfInBounds_toArray, List.set_cons_zero, List.set_cons_succ]
            refine wpAnyH_ready (rs := [37]) (by kernel_rfl) (by simp) ?_
            refine AllReadyH.cons (o := _) rfl (fun K hK => ?_) AllReadyH.nil
            go_simp
            (with_reducible refine (in62_any (sizeS x t bx.lo bY.lo) R _).mono ?_)
            rintro e v37 ⟨rfl, hb⟩
            rw [HIS.out]
            refine hK.out _ _ (⟨hS.1.step hb, hS.2.trans (hb.mono hS.2.size)⟩) (fun hS => ?_)
            clear hK K
            try simp only [List.setIfInBounds_toArray, List.set_cons_zero, List.set_cons_succ]
            refine tkH (i := 38) (v := ?_) (fun V hV => ?_) ?_
            rotate_left
            · go_simp
              try with_reducible rfl
            try simp only [Act.put, List.getElem_toArray, List.getElem_cons_zero, List.getElem_cons_succ, List.setIfInBounds_toArray, List.set_cons_zero, List.set_cons_succ]
            refine tkH (i := 39) (v := ?_) (fun V hV => ?_) ?_
            rotate_left
            · go_simp
              try with_reducible rfl
            try simp only [Act.put, List.getElem_toArray, List.getElem_cons_zero, List.getElem_cons_succ, List.setIfInBounds_toArray, List.set_cons_zero, List.set_cons_succ]
            refine tkH (i := 40) (v := ?_) (fun V hV => ?_) ?_
            rotate_left
            · go_simp
              try with_reducible rfl
            try simp only [Act.put, List.getElem_toArray, List.getElem_cons_zero, List.getElem_cons_succ, List.setIfInBounds_toArray, List.set_cons_zero, List.set_cons_succ]
            refine tkH (i := 41) (v := ?_) (fun V hV => ?_) ?_
            rotate_left
            · have hv1 := HVK.out.1; have hv2 := HVK.out.2; go_simp
              try with_reducible rfl
            try simp only [Act.put, List.getElem_toArray, List.getElem_cons_zero, List.getElem_cons_succ, List.setIfInBounds_toArray, List.set_cons_zero, List.set_cons_succ]
            refine tkH (i := 42) (v := ?_) (fun V hV => ?_) ?_
            rotate_left
            · go_simp
              try with_reducible rfl
            try simp only [Act.put, List.getElem_toArray, List.getElem_cons_zero, List.getElem_cons_succ, List.setIfInBounds_toArray, List.set_cons_zero, List.set_cons_succ]
            refine tkU (i := 43) ?_
            try simp only [Act.put, List.getElem_toArray, List.getElem_cons_zero, List.getElem_cons_succ, List.setIfInBounds_toArray, List.set_cons_zero, List.set_cons_succ]
            refine tkH (i := 44) (v := ?_) (fun V hV => ?_) ?_
            rotate_left
            · go_simp
              try with_reducible rfl
            try simp only [Act.put, List.getElem_toArray, List.getElem_cons_zero, List.getElem_cons_succ, List.setIfInBounds_toArray, List.set_cons_zero, List.set_cons_succ]
            refine tkH (i := 45) (v := ?_) (fun V hV => ?_) ?_
            rotate_left
            · go_simp
              try with_reducible rfl
            try simp only [Act.put, List.getElem_toArray, List.getElem_cons_zero, List.getElem_cons_succ, List.setIfInBounds_toArray, List.set_cons_zero, List.set_cons_succ]
            refine tkH (i := 46) (v := ?_) (fun V hV => ?_) ?_
            rotate_left
            · go_simp
              try with_reducible rfl
            try simp only [Act.put, List.getElem_toArray, List.getElem_cons_zero, List.getElem_cons_succ, List.setIfInBounds_toArray, List.set_cons_zero, List.set_cons_succ]
            refine tkH (i := 47) (v := ?_) (fun V hV => ?_) ?_
            rotate_left
            · go_simp
              try with_reducible rfl
            try simp only [Act.put, List.getElem_toArray, List.getElem_cons_zero, List.getElem_cons_succ, List.setIfInBounds_toArray, List.set_cons_zero, List.set_cons_succ]
            refine tkH (i := 48) (v := ?_) (fun V hV => ?_) ?_
            rotate_left
            · have hv1 := HVK.out.1; have hv2 := HVK.out.2; go_simp
              try with_reducible rfl
            try simp only [Act.put, List.getElem_toArray, List.getElem_cons_zero, List.getElem_cons_succ, List.setIfInBounds_toArray, List.set_cons_zero, List.set_cons_succ]
            refine tkH (i := 49) (v := ?_) (fun V hV => ?_) ?_
            rotate_left
            · go_simp
              try with_reducible rfl
            try simp only [Act.put, List.getElem_toArray, List.getElem_cons_zero, List.getElem_cons_succ, List.setIfInBounds_toArray, List.set_cons_zero, List.set_cons_succ]
            refine tkU (i := 50) ?_
            try simp only [Act.put, List.getElem_toArray, List.getElem_cons_zero, List.getElem_cons_succ, List.setIfInBounds_toArray, List.set_cons_zero, List.set_cons_succ]
            refine tkU (i := 51) ?_
            try simp only [Act.put, List.getElem_toArray, List.getElem_cons_zero, List.getElem_cons_succ, List.setIfInBounds_toArray, List.set_cons_zero, List.set_cons_succ]
            refine tkH (i := 52) (v := ?_) (fun V hV => ?_) ?_
            rotate_left
            · go_simp
              try with_reducible rfl
            try simp only [Act.put, List.getElem_toArray, List.getElem_cons_zero, List.getElem_cons_succ, List.setIfInBounds_toArray, List.set_cons_zero, List.set_cons_succ]
            refine tkH (i := 53) (v := ?_) (fun V hV => ?_) ?_
            rotate_left
            · go_simp
              try with_reducible rfl
            try simp only [Act.put, List.getElem_toArray, List.getElem_cons_zero, List.getElem_cons_succ, List.setIfInBounds_toArray, List.set_cons_zero, List.set_cons_succ]
            refine tkH (i := 54) (v := ?_) (fun V hV => ?_) ?_
            rotate_left
            · go_simp
              try with_reducible rfl
            try simp only [Act.put, List.getElem_toArray, List.getElem_cons_zero, List.getElem_cons_succ, List.setIfInBounds_toArray, List.set_cons_zero, List.set_cons_succ]
            refine wpAnyH_ready (rs := [55]) (by kernel_rfl) (by simp) ?_
            refine AllReadyH.cons (o := _) rfl (fun K hK => ?_) AllReadyH.nil
            go_simp
            refine (awake_any _).mono ?_
            rintro e v55 ⟨rfl, hb⟩
            refine hK.out _ _ (⟨hS.1.step hb, hS.2.trans (hb.mono hS.2.size)⟩) (fun hS => ?_)
            clear hK K
            try simp only [List.setIfInBounds_toArray, List.set_cons_zero, List.set_cons_succ]
            refine tkH (i := 56) (v := ?_) (fun V hV => ?_) ?_
            rotate_left
            · go_simp
              try with_reducible rfl
            try simp only [Act.put, List.getElem_toArray, List.getElem_cons_zero, List.getElem_cons_succ, List.setIfInBounds_toArray, List.set_cons_zero, List.set_cons_succ]
            refine tkH (i := 57) (v := ?_) (fun V hV => ?_) ?_
            rotate_left
            · go_simp
              try with_reducible rfl
            try simp only [Act.put, List.getElem_toArray, List.getElem_cons_zero, List.getElem_cons_succ, List.setIfInBounds_toArray, List.set_cons_zero, List.set_cons_succ]
            refine wpAnyH_done (by kernel_rfl) ?_ _
            go_wp2_with fail
            go_ret
            exact ⟨rfl, hS.1.below⟩
end
section
open Go.ChangeShapes Go.WideShapes Go.ChangeAt Go.RowKit

set_option maxRecDepth 100000 in
set_option maxHeartbeats 1000000 in
theorem stormTruth_lifted (os : Os) (started : os.Started) (H : Type) (enc : TypeId × Value → H) :
    ReturnsInHanded {} Try.checked os 14 .any (Rows.stormTruthSpec.pre6 enc Try.prog Try.f14 Rows.stormTruthRow.domain false) (Rows.stormTruthSpec.post enc Try.prog Try.f14 false true false false) := by
  refine returnsInHanded_of_change (C := Try.checked) Try.own started (by kernel_rfl) Try.func14
    (ChangeSpec.witness6 (enc := enc) (C := Try.checked) false ⟨#[], #[.agg #[.int .i64 0, .int .i64 0, .int .i64 0, .int .i64 0, .int .i64 0, .int .i64 0, .int .i64 0, .int .i64 0, .int .i64 0, .int .i64 0, .int .i64 0, .slice none 0 0], .int .u16 0, .slice none 0 0, .int .u16 0], []⟩ 8 (by kernel_rfl) (by kernel_rfl) (by kernel_rfl) (by kernel_rfl)) ?_
  intro W base args ds gs before hval0 hW hcnd _
  have hval : ∀ (j : Nat) t v, Try.f14.params[j]? = some t → args[j]? = some v → Value.okWide Try.prog W .any base t v := hval0
  have hW' := hW
  obtain ⟨p, q, hA0, hV, rfl, hfz, hnd⟩ := hW
  have hA : DataW.TrodAll enc Try.prog W 0 (fun _ => true) true Try.f14.params.toList args.toList ds p := hA0
  rw [Try.params14] at hA hval
  obtain ⟨v0, v1, v2, v3, d0, d1, d2, d3, p0, p1, p2, p3, rfl, rfl, rfl, h0, h1, h2, h3⟩ := trodAll_four hA
  obtain ⟨rfl, rfl⟩ := trodVars_none hV
  obtain ⟨cs, rfl, hsz⟩ := okWide_struct Try.underlying26 (hval 0 26 v0 rfl rfl)
  obtain ⟨s, q0, m, e0, hv, hL⟩ := read_sto h0
  cases hv
  obtain ⟨x1, hx1, _, _, hwf1⟩ := open_int Try.underlying62 (hval 1 62 v1 rfl rfl) h1
  cases hx1
  have hb1 : 0 ≤ x1 ∧ x1 ≤ 65535 := by simpa [Lit.wf, IntKind.min, IntKind.max, IntKind.signed, IntKind.bits] using hwf1
  obtain ⟨a2, len2, cap2, rfl⟩ := okWide_slice Try.underlying102 (hval 2 102 v2 rfl rfl)
  obtain ⟨fu2, hf2⟩ := id h2
  obtain ⟨q2, m2, e2, l2, hv2, hw2⟩ := read_words hf2
  cases hv2
  obtain ⟨x3, hx3, _, _, hwf3⟩ := open_int Try.underlying62 (hval 3 62 v3 rfl rfl) h3
  cases hx3
  have hb3 : 0 ≤ x3 ∧ x3 ≤ 65535 := by simpa [Lit.wf, IntKind.min, IntKind.max, IntKind.signed, IntKind.bits] using hwf3
  clear hA0 hval0
  refine (stormTruth_any s q0 m e0 x1 a2 len2 cap2 l2 x3 W hL hb1 hw2 hb3).mono fun e W' ⟨he, hb⟩ => ?_
  subst he
  have hlt := hW'.lt
  exact ⟨_, rfl, _, _, _, [], _, [], hW', trodAll_mk1 (shut_bool Try.underlying4 true), trodAll_mk4 (Below.trod Try.laidOut (by kernel_rfl) (of_decide_eq_true (by kernel_rfl)) h0 hb (fun x hx => hlt x (by simp [hx]))) (Below.trod Try.laidOut (by kernel_rfl) (of_decide_eq_true (by kernel_rfl)) h1 hb (fun x hx => hlt x (by simp [hx]))) (Below.trod Try.laidOut (by kernel_rfl) (of_decide_eq_true (by kernel_rfl)) h2 hb (fun x hx => hlt x (by simp [hx]))) (Below.trod Try.laidOut (by kernel_rfl) (of_decide_eq_true (by kernel_rfl)) h3 hb (fun x hx => hlt x (by simp [hx]))), rfl, hb.frame _, fun h => by cases h⟩

theorem stormTruth_holds : Rows.StormTruthSaid :=
  OpenClaim.holds_of_wide 14 Try.f14 rfl rfl rfl rfl rfl rfl rfl ⟨rfl, rfl, rfl, rfl, rfl⟩ rfl rfl rfl rfl rfl (by kernel_rfl) Try.func14 (by kernel_rfl)
    (of_decide_eq_true (by kernel_rfl)) (by unfold Func.isWrapper; first | (rw [if_pos (by decide +kernel)]; kernel_rfl) | (rw [if_neg (by decide +kernel)]; exact ⟨rfl, rfl⟩))
    (fun os started H enc _ => stormTruth_lifted os started H enc)

end
end Go.Proofs.Ytfnefkenheglhaa
