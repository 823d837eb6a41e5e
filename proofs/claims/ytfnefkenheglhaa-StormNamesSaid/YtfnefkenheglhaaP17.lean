/- Package storm: the first wrong card. No condition. -/
import Derived.Test.YtfnefkenheglhaaP16
import Derived.Test.YtfnefkenheglhaaP9
namespace Go.Proofs.Ytfnefkenheglhaa
open Go.RowKit
attribute [local go_sem] Oper.semAt_some

theorem idx6 (f : Nat → Bool) (k : Nat) (hk : k < 6) (W : World) : (Instr.index 135 (.agg #[.bool (f 0), .bool (f 1), .bool (f 2), .bool (f 3), .bool (f 4), .bool (f 5)]) (.int .i64 (k : Int))).run Try.prog W = .ok (.bool (f k)) W := by
  have h : k = 0 ∨ k = 1 ∨ k = 2 ∨ k = 3 ∨ k = 4 ∨ k = 5 := by omega
  rcases h with rfl | rfl | rfl | rfl | rfl | rfl <;> (show _ = _; kernel_rfl)
theorem lead_at {α : Type} {f : α → Bool} : ∀ {l : List α} {k : Nat} {a : α}, (l.take k).all f = true → l[k]? = some a → f a = false → (l.takeWhile f).length = k
  | [], k, a, _, h, _ => by simp at h
  | b :: l, 0, a, _, h, ha => by
    simp at h
    subst h
    rw [List.takeWhile_cons, ha]; rfl
  | b :: l, k + 1, a, hb, h, ha => by
    rw [List.take_succ_cons, List.all_cons, Bool.and_eq_true] at hb
    rw [List.takeWhile_cons, hb.1]
    simp only [if_true, List.length_cons]
    rw [lead_at hb.2 (by simpa using h) ha]
theorem lead_all {α : Type} {f : α → Bool} : ∀ {l : List α}, l.all f = true → (l.takeWhile f).length = l.length
  | [], _ => rfl
  | b :: l, h => by
    rw [List.all_cons, Bool.and_eq_true] at h
    rw [List.takeWhile_cons, h.1]
    simp only [if_true, List.length_cons]
    rw [lead_all h.2]
/-- How many cards are right before the first that is not. -/
def leadN (s : Sto) (t : Tru) : Int := ((s.cards.takeWhile (fitsB s t)).length : Int)
def leadStep (s : Sto) (m : Int) (t : Tru) : Int := if m < leadN s t then leadN s t else m
def firstM (s : Sto) : Int := (possL s).foldl (leadStep s) 0
def firstV (s : Sto) : Int := if faultS s = 0 then (if firstM s = s.cards.length then 0 else firstM s) else 0
def firstE (s : Sto) : Int := if faultS s = 0 then (if firstM s = s.cards.length then 7 else 0) else faultS s
theorem lead_snoc (s : Sto) (pre : List Tru) (t : Tru) (m : Int) : (pre ++ [t]).foldl (leadStep s) m = leadStep s (pre.foldl (leadStep s) m) t := by rw [List.foldl_append]; rfl
theorem lead_le (s : Sto) (t : Tru) : 0 ≤ leadN s t ∧ leadN s t ≤ s.cards.length := by
  unfold leadN
  have : ∀ l : List Crd, (l.takeWhile (fitsB s t)).length ≤ l.length := by
    intro l
    induction l with
    | nil => simp
    | cons a l ih => rw [List.takeWhile_cons]; split <;> simp; exact ih
  have := this s.cards
  omega
theorem firstM_le (s : Sto) (l : List Tru) : 0 ≤ l.foldl (leadStep s) 0 ∧ l.foldl (leadStep s) 0 ≤ s.cards.length := by
  have : ∀ (l : List Tru) (m : Int), 0 ≤ m → m ≤ s.cards.length → 0 ≤ l.foldl (leadStep s) m ∧ l.foldl (leadStep s) m ≤ s.cards.length := by
    intro l
    induction l with
    | nil => intro m h0 h1; exact ⟨h0, h1⟩
    | cons t l ih =>
      intro m h0 h1
      have := lead_le s t
      rw [List.foldl_cons]
      refine ih _ ?_ ?_ <;> unfold leadStep <;> split <;> omega
  exact this l 0 (Int.le_refl 0) (by omega)
def FirstPost (s : Sto) (w : World) : Ending → World → Prop := fun e w' => e = .returned (.tuple #[.int .i64 (firstV s), .int .i64 (firstE s)]) ∧ Below w.heap.size w w'
theorem StoAt.nearK {S : Nat → Prop} {w w' : World} {b : Nat} {s : Sto} {p : Option Addr} {n c : Nat} (h : StoAt w b s p n c) (hn : Near S w w') (hS : ¬ S b) : StoAt w' b s p n c := h.kept (hn.block _ h.lt hS)

set_option maxRecDepth 40000 in
set_option maxHeartbeats 8000000 in
theorem first_any (s : Sto) (p : Option Addr) (n c : Nat) (w : World) (hcs : CrdsAt w p n s.cards) :
    Calls Try.prog 28 #[.agg #[.int .i64 s.wide, .int .i64 s.high, .int .i64 s.fall, .int .i64 s.a.lo, .int .i64 s.a.hi, .int .i64 s.b.lo, .int .i64 s.b.hi, .int .i64 s.half.lo, .int .i64 s.half.hi, .int .i64 s.peak.lo, .int .i64 s.peak.hi, .slice p n c]] w (FirstPost s w) := by
  have HC := hid hcs
  have HCK := hid (fun W (hb : Below w.heap.size w W) => checkStorm_any s p n c W (hcs.below hb))
  have HL := hid hcs.1
  clear hcs
  obtain ⟨W0, hW0⟩ : ∃ W, w.alloc (.cells #[.int .i64 s.wide, .int .i64 s.high, .int .i64 s.fall, .int .i64 s.a.lo, .int .i64 s.a.hi, .int .i64 s.b.lo, .int .i64 s.b.hi, .int .i64 s.half.lo, .int .i64 s.half.hi, .int .i64 s.peak.lo, .int .i64 s.peak.hi, .slice p n c] 35) = W := ⟨_, rfl⟩
  have H0 : Hid (Boxed1 w #[.int .i64 s.wide, .int .i64 s.high, .int .i64 s.fall, .int .i64 s.a.lo, .int .i64 s.a.hi, .int .i64 s.b.lo, .int .i64 s.b.hi, .int .i64 s.half.lo, .int .i64 s.half.hi, .int .i64 s.peak.lo, .int .i64 s.peak.hi, .slice p n c] 35 W0) := by show Boxed1 _ _ _ _; rw [← hW0]; exact Boxed1.start _ _ _
  have e0 := (StoAt.of H0.out.cell).c0; have e1 := (StoAt.of H0.out.cell).c1; have e2 := (StoAt.of H0.out.cell).c2; have e3 := (StoAt.of H0.out.cell).c3; have e4 := (StoAt.of H0.out.cell).c4; have e5 := (StoAt.of H0.out.cell).c5; have e6 := (StoAt.of H0.out.cell).c6; have e7 := (StoAt.of H0.out.cell).c7; have e8 := (StoAt.of H0.out.cell).c8; have e9 := (StoAt.of H0.out.cell).c9; have e10 := (StoAt.of H0.out.cell).c10; have e11 := (StoAt.of H0.out.cell).c11
  refine (callsIn_wide (n := 22)).1 ?_
  refine callsIn_of_wp_marks Try.func28 rfl trivial ?_ rfl
  simp only [Try.ntmps28, List.size_toArray, List.length_cons, List.length_nil, Nat.reduceAdd, Nat.reduceSub, Array.replicate_succ, Array.replicate_zero, List.push_toArray, List.append_toArray, List.nil_append, List.cons_append]
  gi_wp2
  refine ⟨trivial, ?_⟩
  gi_at_call 54
  refine (callsIn_wide.2 (HCK.out _ H0.out.below)).mono ?_
  rintro e w1 ⟨rfl, hb⟩
  have H1 := hid (H0.out.step hb)
  clear hb hW0 e0 e1 e2 e3 e4 e5 e6 e7 e8 e9 e10 e11
  by_cases h0 : faultS s = 0
  · have HOK := hid (fault_iff.1 h0)
    have HFV : Hid (firstV s = if firstM s = s.cards.length then 0 else firstM s) := by show _ = _; rw [firstV, if_pos h0]
    have HFE : Hid (firstE s = if firstM s = s.cards.length then 7 else 0) := by show _ = _; rw [firstE, if_pos h0]
    rw [h0]
    have hn6 : n ≤ 6 := by have := HOK.out.n6; have := HL.out; omega
    clear h0
    have e0 := (StoAt.of H1.out.cell).c0; have e1 := (StoAt.of H1.out.cell).c1; have e2 := (StoAt.of H1.out.cell).c2; have e3 := (StoAt.of H1.out.cell).c3; have e4 := (StoAt.of H1.out.cell).c4; have e5 := (StoAt.of H1.out.cell).c5; have e6 := (StoAt.of H1.out.cell).c6; have e7 := (StoAt.of H1.out.cell).c7; have e8 := (StoAt.of H1.out.cell).c8; have e9 := (StoAt.of H1.out.cell).c9; have e10 := (StoAt.of H1.out.cell).c10; have e11 := (StoAt.of H1.out.cell).c11
    gi_wp2
    refine ⟨trivial, ?_⟩
    gi_at_call 81
    refine (callsIn_wide.2 (work_any s p n c _)).mono ?_
    rintro e w2 ⟨rfl, hwk, hmp, hz3, hb⟩
    have H2 := hid (H1.out.step hb)
    have hz1 := H1.out.size
    obtain ⟨b, hbE⟩ : ∃ b, w1.heap.size + 2 = b := ⟨_, rfl⟩
    obtain ⟨bm, hmE⟩ : ∃ bm, w1.heap.size + 1 = bm := ⟨_, rfl⟩
    rw [hbE, hmE] at hwk
    rw [hmE] at hmp
    have hWK : WK s p n c b bm 0 w2 w2 := ⟨Near.refl _ _, hwk, _, hmp, knows_nil s⟩
    have hb : b < w2.heap.size := by omega
    have hm : bm < w2.heap.size := by omega
    have hbm : b ≠ bm := by omega
    have hwb : w.heap.size < w2.heap.size ∧ w.heap.size ≠ bm := ⟨by omega, by omega⟩
    have HPB : Hid (∀ a, p = some a → 0 < n → a.block ≠ bm) := fun a ha hn => by
      obtain ⟨_, _, b1, o1, e1, hlt, _⟩ := HC.out.at hn
      rw [ha] at e1; cases e1
      show b1 ≠ _
      omega
    have HCR := hid (fun W (hW : Near (fun k => k = bm) w2 W) => (HC.out.below H2.out.below).kept hW.size (fun a ha hn0 hlt => hW.block _ hlt (HPB.out a ha hn0)))
    have HSW := hid (fun W (hW : Near (fun k => k = bm) w2 W) => (StoAt.of H2.out.cell).nearK hW hwb.2)
    have HW := hid hWK
    have HWB := hid hwb
    have HLEN := hid (poss_len HOK.out)
    have HG := hid (fun W bv (hI : ItAt W bv b s p n c) => possible_gives s p n c bv b HOK.out.ranges HOK.out.h12 W 21 hI)
    have HBM := hid (show w.heap.size ≤ bm ∧ w.heap.size ≤ b by omega)
    rw [hbE]
    clear hwk hmp hz3 hz1 hbE hmE hWK hwb e0 e1 e2 e3 e4 e5 e6 e7 e8 e9 e10 e11
    obtain ⟨Wa, hWa⟩ : ∃ V, (w2.alloc (.cells #[.pointer (some ⟨b, 0, none⟩)] 120)).alloc (.cells #[.int .i64 0] 3) = V := ⟨_, rfl⟩
    have HPa : Hid (BoxIs w2.heap.size #[.pointer (some ⟨b, 0, none⟩)] Wa) := by show BoxIs _ _ _; rw [← hWa]; exact (BoxIs.start _ _ _).below ((Below.refl _ _).alloc (Nat.le_refl _) _)
    have HXa : Hid (BoxIs (w2.heap.size + 1) #[.int .i64 0] Wa) := by
      show BoxIs _ _ _
      have h := BoxIs.start (w2.alloc (.cells #[.pointer (some ⟨b, 0, none⟩)] 120)) #[.int .i64 0] 3
      rw [World.size_alloc, hWa] at h; exact h
    have HBa : Hid (Below w2.heap.size w2 Wa) := by show Below _ _ _; rw [← hWa]; exact ((Below.refl _ _).alloc (Nat.le_refl _) _).alloc (by simp) _
    have HZa : Hid (Wa.heap.size = w2.heap.size + 2) := by show _ = _; rw [← hWa]; simp
    obtain ⟨W3, hW3⟩ : ∃ V, Wa.setCell ⟨w2.heap.size + 1, 0, none⟩ (.int .i64 0) = V := ⟨_, rfl⟩
    have HP3 : Hid (BoxIs w2.heap.size #[.pointer (some ⟨b, 0, none⟩)] W3) := by show BoxIs _ _ _; rw [← hW3]; exact HPa.out.other (by omega) _
    have HX3 : Hid (BoxIs (w2.heap.size + 1) #[.int .i64 0] W3) := by show BoxIs _ _ _; rw [← hW3]; exact HXa.out.put (j := 0) _
    have HB3 : Hid (Below w2.heap.size w2 W3) := by show Below _ _ _; rw [← hW3]; exact HBa.out.setCell (p := ⟨w2.heap.size + 1, 0, none⟩) (by show w2.heap.size ≤ w2.heap.size + 1; omega) _
    have HZ3 : Hid (W3.heap.size = w2.heap.size + 2) := by show _ = _; rw [← hW3]; simpa [World.setCell] using HZa.out
    have k0 := (HP3.out.2 0 (.pointer (some ⟨b, 0, none⟩)) rfl).1; have k1 := (HXa.out.2 0 (.int .i64 0) rfl).1; have k2 := (HXa.out.2 0 (.int .i64 0) rfl).2
    gi_wp2
    refine ⟨trivial, ?_⟩
    gi_at_call 82
    refine (callsIn_wide.2 (possibleF_any _ _)).mono ?_
    rintro e w5 ⟨rfl, rfl⟩
    clear k0 k1 k2 hW3 hWa
    gi_wp2
    obtain ⟨W5, hW5⟩ : ∃ W, W3.alloc (.cells #[.pointer (some ⟨b, 0, none⟩)] 120) = W := ⟨_, rfl⟩
    have hI5 : ItAt W5 W3.heap.size b s p n c := by
      rw [← hW5]
      exact ⟨cell_box W3 _ 120 0 _ rfl, (HW.out.2.1.sto.below HB3.out).below ((Below.refl _ _).alloc (Nat.le_refl _) _)⟩
    have hb5 : Below w2.heap.size w2 W5 := by rw [← hW5]; exact HB3.out.alloc (by have := HZ3.out; omega) _
    have hb05 : Below W3.heap.size W3 W5 := by rw [← hW5]; exact (Below.refl _ _).alloc (Nat.le_refl _) _
    have hz5 : W5.heap.size = w2.heap.size + 3 := by rw [← hW5, World.size_alloc, HZ3.out]
    have hz0 := HZ3.out
    rw [hW5]
    clear hW5
    refine wpIn_rangeFunc_near3 rfl (by omega) (gf := 115) (lb := #[.pointer (some ⟨W3.heap.size, 0, none⟩)]) rfl trivial (enters_of Try.func115 (by kernel_rfl) rfl) (fun t => (rfl : (encT t).size = #[18].size))
      (HG.out W5 W3.heap.size hI5) (Below.refl _ _) (fun i hi => by omega) (fun i => i = bm ∨ i = w2.heap.size + 1) (fun i hi => ⟨by omega, by omega⟩)
      (fun pre W => WK s p n c b bm (7 * pre.length) w2 W ∧ BoxIs w2.heap.size #[.pointer (some ⟨b, 0, none⟩)] W ∧ BoxIs (w2.heap.size + 1) #[.int .i64 (pre.foldl (leadStep s) 0)] W)
      (fun pre W => False)
      (fun pre W1 W2 h hn => ⟨h.1.near hn (by omega) hb hm, h.2.1.near hn (by omega), h.2.2.near hn (by omega)⟩)
      (fun pre W1 W2 h hn => h) ?h0 ?round ?done ?stop
    case h0 =>
      exact ⟨HW.out.near (Near.of_below hb5 (S := fun k => w2.heap.size ≤ k) (fun i _ h => h)) (fun k hk => hk) hb hm, HP3.out.below hb05, HX3.out.below hb05⟩
    case round =>
      rintro pre x rest W hall hsz ⟨hwk, hP, hX⟩
      have htr : truB s x = true := mem_poss.1 (by rw [hall]; simp)
      have hpl : pre.length < 2000 := by have h1 := HLEN.out; rw [hall] at h1; simp at h1; omega
      have HFS := hid (lead_snoc s pre x 0)
      have hmb := firstM_le s pre
      have hlb := lead_le s x
      obtain ⟨m, hme⟩ : ∃ m, pre.foldl (leadStep s) 0 = m := ⟨_, rfl⟩
      rw [hme] at hX HFS hmb
      have HWK := hid hwk; have HP := hid hP; have HX := hid hX; have HSZ := hid hsz
      have HZ5 : Hid (W5.heap.size = w2.heap.size + 3) := hz5
      have HTR := hid htr; have HPL := hid hpl; have HMB := hid hmb; have HLB := hid hlb
      clear hall hwk hP hX hsz hz5 hz0 hb5 hb05 hI5 htr hpl hme hmb hlb
      simp only [encT]
      gi_wp2
      refine ⟨(Near.refl _ _).alloc _, fun W2 hn2 => ?_⟩
      have hn3 : Near (fun k => k = W5.heap.size + 1) W W2 := ((Near.refl _ _).alloc _).trans hn2
      have HWK2 : Hid (WK s p n c b bm (7 * pre.length) w2 W2) := HWK.out.near hn3 (fun k hk => by have := HZ5.out; omega) hb hm
      have HP2 : Hid (BoxIs w2.heap.size #[.pointer (some ⟨b, 0, none⟩)] W2) := HP.out.near hn3 (by have := HZ5.out; omega)
      have HX2 : Hid (BoxIs (w2.heap.size + 1) #[.int .i64 m] W2) := HX.out.near hn3 (by have := HZ5.out; omega)
      have HT2 : Hid (TruAt W2 W.heap.size x) := (TruAt.of (cell_box W #[.int .i64 x.a, .int .i64 x.b, .int .i64 x.half, .int .i64 x.peak] 94)).kept (hn2.block W.heap.size (by simp) (by have := HSZ.out; omega))
      have HZW : Hid (w2.heap.size + 5 ≤ W.heap.size) := hid (by have := HSZ.out; have := HZ5.out; omega)
      clear HWK HP HX hn2 hn3
      gi_wp2
      gi_loopw [8] (fun i wr => ∃ k : Nat, k ≤ n ∧ i = .int .i64 k ∧ (s.cards.take k).all (fitsB s x) = true ∧ WK s p n c b bm (7 * pre.length + k) w2 wr ∧ Near (fun k => k = bm) W2 wr) (fun i _ => n - (intOf i).toNat)
      case atStart => exact ⟨0, by omega, rfl, rfl, HWK2.out, Near.refl _ _⟩
      case round =>
        obtain ⟨k, hk, rfl, ha, hwr, hnr⟩ := hrel
        have HA := hid ha; have HWR := hid hwr; have HNR := hid hnr
        have HPr := hid (HP2.out.near hnr (by omega)); have HXr := hid (HX2.out.near hnr (by omega)); have HTr := hid (HT2.out.kept (hnr.block _ HT2.out.lt (by have := HZW.out; omega)))
        have HSr := hid (HSW.out _ hwr.1)
        clear ha hwr hnr HWK2
        have e11 := HSr.out.c11
        have p0 := (HPr.out.2 0 (.pointer (some ⟨b, 0, none⟩)) rfl).1
        have t0 := HTr.out.c0; have t1 := HTr.out.c1; have t2 := HTr.out.c2; have t3 := HTr.out.c3
        by_cases hlt : k < n
        · have hk6 : k < 6 := by omega
          obtain ⟨y, hy⟩ : ∃ y, s.cards[k]? = some y := ⟨_, List.getElem?_eq_getElem (by have := HL.out; omega)⟩
          have HY := hid hy
          clear hy
          gi_wp2
          refine ⟨trivial, ?_⟩
          gi_at_call 83
          obtain ⟨M, hM, hKn⟩ := HWR.out.2.2
          refine (CallsIn.inRound _ (callsIn_wide.2 (right6_any s p n c x b bm _ M wr HWR.out.2.1 (HCR.out _ HWR.out.1) hM hKn (by have := HPL.out; unfold maxLen; omega) HOK.out HTR.out))).mono ?_
          rintro e W7 ⟨rfl, M', hM', hKn', hn7⟩
          have HWK7 : Hid (WK s p n c b bm (7 * pre.length + (k + 1)) w2 W7) := HWR.out.right hn7 hM' hKn' hbm
          have HN7 := hid (HNR.out.trans hn7)
          have HP7 := hid (HPr.out.near hn7 (by omega)); have HX7 := hid (HXr.out.near hn7 (by omega))
          clear hM hKn hM' hKn' hn7 e11 p0 t0 t1 t2 t3
          have hrk : rightF s x k = fitsB s x y := by rw [rightF, HY.out]
          have hix := idx6 (rightF s x) k hk6 W7
          rw [hrk] at hix
          have x0 := (HX7.out.2 0 (.int .i64 m) rfl).1; have x1 := (HX7.out.2 0 (.int .i64 m) rfl).2
          unfold B6
          cases hf : fitsB s x y
          · rw [hf] at hix
            have HLK : Hid (leadN s x = k) := hid (by rw [leadN, lead_at HA.out HY.out hf])
            clear hf hrk
            have HST := hid (show leadStep s m x = if m < leadN s x then leadN s x else m from rfl)
            rw [HLK.out] at HST
            have hmb := HMB.out
            by_cases hlt3 : m < (k : Int)
            · have HSE : Hid (leadStep s m x = k) := by show _ = _; rw [HST.out, if_pos hlt3]
              have hv : (if m < (k : Int) then (k : Int) else m) = k := if_pos hlt3
              clear hv
              gi_wp2
              exact ⟨(HN7.out.mono (fun _ _ h => .inl h)).setCell (p := ⟨w2.heap.size + 1, 0, none⟩) (fun _ => .inr rfl) _, by show WK _ _ _ _ _ _ _ _ _; rw [List.length_append, List.length_singleton]; exact (HWK7.out.near ((Near.refl (fun k => k = w2.heap.size + 1) _).setCell (p := ⟨w2.heap.size + 1, 0, none⟩) (fun _ => rfl) _) (fun k hk => by omega) hb hm).more (by omega), HP7.out.other (by omega) _, by show BoxIs _ _ _; rw [HFS.out, HSE.out]; exact HX7.out.put (j := 0) _⟩
            · have HSE : Hid (leadStep s m x = m) := by show _ = _; rw [HST.out, if_neg hlt3]
              have hv : (if m < (k : Int) then (k : Int) else m) = m := if_neg hlt3
              clear hv
              gi_wp2
              exact ⟨(HN7.out.mono (fun _ _ h => .inl h)).setCell (p := ⟨w2.heap.size + 1, 0, none⟩) (fun _ => .inr rfl) _, by show WK _ _ _ _ _ _ _ _ _; rw [List.length_append, List.length_singleton]; exact (HWK7.out.near ((Near.refl (fun k => k = w2.heap.size + 1) _).setCell (p := ⟨w2.heap.size + 1, 0, none⟩) (fun _ => rfl) _) (fun k hk => by omega) hb hm).more (by omega), HP7.out.other (by omega) _, by show BoxIs _ _ _; rw [HFS.out, HSE.out]; exact HX7.out.put (j := 0) _⟩
          · rw [hf] at hix
            have HF := hid hf
            clear hf hrk x0 x1
            gi_wp2
            go_roundw
            case rel => exact ⟨k + 1, by omega, by go_num, by rw [all_take (fitsB s x) HY.out, HA.out, HF.out]; rfl, HWK7.out, HN7.out⟩
            case measure => simp [intOf]; omega
        · have hkn : k = n := by omega
          subst hkn
          have HLK : Hid (leadN s x = k) := hid (by
            have h1 : s.cards.take k = s.cards := List.take_of_length_le (by have := HL.out; omega)
            have h2 := HA.out
            rw [h1] at h2
            rw [leadN, lead_all h2, ← HL.out])
          have x0 := (HXr.out.2 0 (.int .i64 m) rfl).1; have x1 := (HXr.out.2 0 (.int .i64 m) rfl).2
          clear p0 t0 t1 t2 t3
          gi_wp2
          refine ⟨trivial, ?_⟩
          have HST := hid (show leadStep s m x = if m < leadN s x then leadN s x else m from rfl)
          rw [HLK.out] at HST
          have hmb := HMB.out
          by_cases hlt3 : m < (k : Int)
          · have HSE : Hid (leadStep s m x = k) := by show _ = _; rw [HST.out, if_pos hlt3]
            have hv : (if m < (k : Int) then (k : Int) else m) = k := if_pos hlt3
            clear hv
            gi_wp2
            exact ⟨(HNR.out.mono (fun _ _ h => .inl h)).setCell (p := ⟨w2.heap.size + 1, 0, none⟩) (fun _ => .inr rfl) _, by show WK _ _ _ _ _ _ _ _ _; rw [List.length_append, List.length_singleton]; exact (HWR.out.near ((Near.refl (fun k => k = w2.heap.size + 1) _).setCell (p := ⟨w2.heap.size + 1, 0, none⟩) (fun _ => rfl) _) (fun k hk => by omega) hb hm).more (by omega), HPr.out.other (by omega) _, by show BoxIs _ _ _; rw [HFS.out, HSE.out]; exact HXr.out.put (j := 0) _⟩
          · have HSE : Hid (leadStep s m x = m) := by show _ = _; rw [HST.out, if_neg hlt3]
            have hv : (if m < (k : Int) then (k : Int) else m) = m := if_neg hlt3
            clear hv
            gi_wp2
            exact ⟨(HNR.out.mono (fun _ _ h => .inl h)).setCell (p := ⟨w2.heap.size + 1, 0, none⟩) (fun _ => .inr rfl) _, by show WK _ _ _ _ _ _ _ _ _; rw [List.length_append, List.length_singleton]; exact (HWR.out.near ((Near.refl (fun k => k = w2.heap.size + 1) _).setCell (p := ⟨w2.heap.size + 1, 0, none⟩) (fun _ => rfl) _) (fun k hk => by omega) hb hm).more (by omega), HPr.out.other (by omega) _, by show BoxIs _ _ _; rw [HFS.out, HSE.out]; exact HXr.out.put (j := 0) _⟩
    case done =>
      rintro W ⟨hwk, hP, hX⟩ hK hsz
      have hmb := firstM_le s (possL s)
      have HFM := hid (show firstM s = (possL s).foldl (leadStep s) 0 from rfl)
      obtain ⟨m, hme⟩ : ∃ m, (possL s).foldl (leadStep s) 0 = m := ⟨_, rfl⟩
      rw [hme] at hX HFM hmb
      rw [HFM.out] at HFV HFE
      have HWK := hid hwk; have HX := hid hX; have HK := hid hK
      have HZ5 : Hid (W5.heap.size = w2.heap.size + 3) := hz5
      have HSr := hid (HSW.out _ hwk.1)
      have e11 := HSr.out.c11
      have x0 := (HX.out.2 0 (.int .i64 m) rfl).1
      have hln := HL.out
      clear hwk hP hX hK hsz hz5 hz0 hb5 hb05 hI5 hme
      rw [← HL.out] at HFV HFE
      by_cases hmn : m = (n : Int)
      · subst hmn
        rw [if_pos rfl] at HFV HFE
        gi_wp2
        refine ⟨by simp, .inl ⟨_, _, rfl, run_takeDeferred HK.out, ?_⟩⟩
        refine ⟨.tuple #[.int .i64 0, .int .i64 7], ?_, ?_, ?_⟩
        · simp [results, Try.f28, go_sem]
        · rw [HFV.out, HFE.out]
        · exact (H2.out.below.trans ((HWK.out.1.below (B := w.heap.size) (by have := HWB.out.1; omega) (fun k h1 h2 => by have := HBM.out.1; omega)))).trans ((Near.putObj _ _).below (by have := HWK.out.1.size; have := HWB.out.1; omega) (fun i hi => by have := HZ5.out; have := HWB.out.1; omega))
      · have hne : (m == (n : Int)) = false := by simpa using hmn
        rw [if_neg hmn] at HFV HFE
        gi_wp2
        refine ⟨by simp, .inl ⟨_, _, rfl, run_takeDeferred HK.out, ?_⟩⟩
        refine ⟨.tuple #[.int .i64 m, .int .i64 0], ?_, ?_, ?_⟩
        · simp [results, Try.f28, go_sem]
        · rw [HFV.out, HFE.out]
        · exact (H2.out.below.trans ((HWK.out.1.below (B := w.heap.size) (by have := HWB.out.1; omega) (fun k h1 h2 => by have := HBM.out.1; omega)))).trans ((Near.putObj _ _).below (by have := HWK.out.1.size; have := HWB.out.1; omega) (fun i hi => by have := HZ5.out; have := HWB.out.1; omega))
    case stop =>
      rintro pre rest W hall hx hK hsz
      exact hx.elim
  · have hE' : (faultS s != 0) = true := by simp [h0]
    have HFV : Hid (firstV s = 0) := by show _ = _; rw [firstV, if_neg h0]
    have HFE : Hid (firstE s = faultS s) := by show _ = _; rw [firstE, if_neg h0]
    have HN := hid h0
    clear h0
    gi_wp2
    refine ⟨.tuple #[.int .i64 0, .int .i64 (faultS s)], ?_, ?_, ?_⟩
    · simp [results, Try.f28, go_sem]
    · rw [HFV.out, HFE.out]
    · exact H1.out.below
end Go.Proofs.Ytfnefkenheglhaa
