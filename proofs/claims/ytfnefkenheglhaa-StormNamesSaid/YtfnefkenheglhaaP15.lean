/- Package storm: the best place. No condition. -/
import Derived.Test.YtfnefkenheglhaaP12
import Derived.Test.YtfnefkenheglhaaRanH
import Derived.Test.YtfnefkenheglhaaP8
namespace Go.Proofs.Ytfnefkenheglhaa
open Go.RowKit
attribute [local go_sem] Oper.semAt_some

/-- What is asked behind a region, which does not panic. -/
def NQ (Q : Exit → Act → World → Prop) : Exit → Act → World → Prop := fun e a w => e = .normal ∧ Q .normal a w
theorem wpIn_tame {F : Fence} {n : Nat} {P : Program} {c : Code} {Q : Exit → Act → World → Prop} {a : Act} {w : World} (h : c.wpIn F n P (NQ Q) a w) : c.wpIn F n P Q a w :=
  Code.wpIn_mono (fun e a w hq => by obtain ⟨rfl, h⟩ := hq; exact h) h
theorem nq_panic (Q : Exit → Act → World → Prop) (f : Act → Act) : ∀ c a w, NQ Q (.panic c) (f a) w → NQ Q (.panic c) a w := fun _ _ _ h => by cases h.1
def hitN (s : Sto) (L : List Tru) (x y : Int) : Int := ((L.filter fun t => hitB s t x y).length : Int)
/-- The worst case of a place. -/
def worstT (s : Sto) (L : List Tru) (x y : Int) : Int := if hitN s L x y < (L.length : Int) - hitN s L x y then (L.length : Int) - hitN s L x y else hitN s L x y
def bestStep (s : Sto) (L : List Tru) (st : Int × Int × Int) (q : Int × Int) : Int × Int × Int := if worstT s L q.1 q.2 < st.2.2 then (q.1, q.2, worstT s L q.1 q.2) else st
def bestT (s : Sto) (L : List Tru) : Int × Int × Int := (placesL ⟨0, s.wide - 1⟩ ⟨0, s.high - 1⟩).foldl (bestStep s L) (0, 0, (L.length : Int) + 1)
def bestV (s : Sto) : Int × Int × Int := if sureE s true = 0 then bestT s (truthL s) else (0, 0, 0)
theorem hitN_snoc {s : Sto} {L : List Tru} {x y : Int} {k : Nat} {t : Tru} (h : L[k]? = some t) : hitN s (L.take (k + 1)) x y = hitN s (L.take k) x y + (if hitB s t x y = true then 1 else 0) := by
  unfold hitN
  rw [List.take_add_one, h, List.filter_append, List.length_append]
  cases hb : hitB s t x y <;> simp [hb]
theorem hitN_le (s : Sto) (L : List Tru) (x y : Int) : 0 ≤ hitN s L x y ∧ hitN s L x y ≤ (L.length : Int) := by
  unfold hitN
  have := List.length_filter_le (fun t => hitB s t x y) L
  omega
theorem best_snoc (s : Sto) (L : List Tru) (pre : List (Int × Int)) (q : Int × Int) (st : Int × Int × Int) : (pre ++ [q]).foldl (bestStep s L) st = bestStep s L (pre.foldl (bestStep s L) st) q := by rw [List.foldl_append]; rfl

/-- The boxes of Best. -/
structure BsBox (w : World) (s : Sto) (p : Option Addr) (n c bl : Nat) (q : Option Addr) (N d : Nat) (L : List Tru) (x y m : Int) (V : World) : Prop where
  b : Boxed1 w #[.int .i64 s.wide, .int .i64 s.high, .int .i64 s.fall, .int .i64 s.a.lo, .int .i64 s.a.hi, .int .i64 s.b.lo, .int .i64 s.b.hi, .int .i64 s.half.lo, .int .i64 s.half.hi, .int .i64 s.peak.lo, .int .i64 s.peak.hi, .slice p n c] 35 V
  x : BoxIs (w.heap.size + 1) #[.int .i64 x] V
  y : BoxIs (w.heap.size + 2) #[.int .i64 y] V
  m : BoxIs (w.heap.size + 3) #[.int .i64 m] V
  l : BoxIs bl #[.slice q N d] V
  r : RowsAt cellsT 4 V q N L
/-- Where the rows lie. -/
def RowIn (lo hi : Nat) (q : Option Addr) (N : Nat) : Prop := ∀ a, q = some a → 0 < N → lo ≤ a.block ∧ a.block < hi
theorem RowsAt.near {α : Type} {enc : α → List Value} {z : Nat} {S : Nat → Prop} {w w' : World} {q : Option Addr} {N : Nat} {l : List α} (h : RowsAt enc z w q N l) (hn : Near S w w') (hS : ∀ a, q = some a → 0 < N → ¬ S a.block) : RowsAt enc z w' q N l :=
  h.kept hn.size fun a ha h0 hlt => hn.block _ hlt (hS a ha h0)
theorem BsBox.near {S : Nat → Prop} {w : World} {s : Sto} {p : Option Addr} {n c bl : Nat} {q : Option Addr} {N d : Nat} {L : List Tru} {x y m : Int} {V V' : World} (h : BsBox w s p n c bl q N d L x y m V) (hn : Near S V V') (hS : ∀ k, S k → bl < k) (hq : RowIn (w.heap.size + 4) bl q N) (hbl : w.heap.size + 4 ≤ bl) : BsBox w s p n c bl q N d L x y m V' :=
  ⟨Below.trans h.b (hn.below h.b.size (fun k hk hs => by have := hS k hs; omega)), h.x.near hn (fun hs => by have := hS _ hs; omega), h.y.near hn (fun hs => by have := hS _ hs; omega), h.m.near hn (fun hs => by have := hS _ hs; omega), h.l.near hn (fun hs => by have := hS _ hs; omega), h.r.near hn (fun a ha h0 hs => by have := hS _ hs; have := hq a ha h0; omega)⟩
theorem BsBox.step {w : World} {s : Sto} {p : Option Addr} {n c bl : Nat} {q : Option Addr} {N d : Nat} {L : List Tru} {x y m : Int} {V V' : World} (h : BsBox w s p n c bl q N d L x y m V) (hb : Below V.heap.size V V') : BsBox w s p n c bl q N d L x y m V' :=
  ⟨h.b.step hb, h.x.below hb, h.y.below hb, h.m.below hb, h.l.below hb, h.r.below hb⟩
def set3 (b : Nat) (x y m : Int) (V : World) : World := ((V.setCell ⟨b + 1, 0, none⟩ (.int .i64 x)).setCell ⟨b + 2, 0, none⟩ (.int .i64 y)).setCell ⟨b + 3, 0, none⟩ (.int .i64 m)
theorem near_set3 {b : Nat} (x y m : Int) (V : World) : Near (fun i => i = b + 1 ∨ i = b + 2 ∨ i = b + 3) V (set3 b x y m V) :=
  (((Near.refl _ V).setCell (p := ⟨b + 1, 0, none⟩) (fun _ => .inl rfl) _).setCell (p := ⟨b + 2, 0, none⟩) (fun _ => .inr (.inl rfl)) _).setCell (p := ⟨b + 3, 0, none⟩) (fun _ => .inr (.inr rfl)) _
theorem BsBox.set {w : World} {s : Sto} {p : Option Addr} {n c bl : Nat} {q : Option Addr} {N d : Nat} {L : List Tru} {x y m : Int} {V : World} (h : BsBox w s p n c bl q N d L x y m V) (hq : RowIn (w.heap.size + 4) bl q N) (hbl : w.heap.size + 4 ≤ bl) (x' y' m' : Int) : BsBox w s p n c bl q N d L x' y' m' (set3 w.heap.size x' y' m' V) := by
  refine ⟨?_, ?_, ?_, ?_, ?_, ?_⟩
  · exact ((Below.setCell h.b (p := ⟨w.heap.size + 1, 0, none⟩) (Nat.le_refl _) _).setCell (p := ⟨w.heap.size + 2, 0, none⟩) (by show w.heap.size + 1 ≤ w.heap.size + 2; omega) _).setCell (p := ⟨w.heap.size + 3, 0, none⟩) (by show w.heap.size + 1 ≤ w.heap.size + 3; omega) _
  · exact ((h.x.put (j := 0) (.int .i64 x')).other (by omega) _).other (by omega) _
  · exact ((h.y.other (by omega) _).put (j := 0) (.int .i64 y')).other (by omega) _
  · exact ((h.m.other (by omega) _).other (by omega) _).put (j := 0) (.int .i64 m')
  · exact ((h.l.other (by omega) _).other (by omega) _).other (by omega) _
  · exact h.r.near (near_set3 x' y' m' V) (fun a ha h0 hs => by have := hq a ha h0; omega)
theorem rowIn_own {α : Type} {enc : α → List Value} {z : Nat} {T : TypeId} {w : World} {base : Nat} {q : Option Addr} {N d : Nat} {l : List α} (h : OwnRows enc z T w base (.slice q N d) l) : RowIn base w.heap.size q N := by
  intro a ha _
  subst ha
  exact h.lt a.block rfl
theorem RowIn.mono {lo lo' hi hi' : Nat} {q : Option Addr} {N : Nat} (h : RowIn lo hi q N) (h1 : lo' ≤ lo) (h2 : hi ≤ hi') : RowIn lo' hi' q N := fun a ha h0 => ⟨Nat.le_trans h1 (h a ha h0).1, Nat.lt_of_lt_of_le (h a ha h0).2 h2⟩

def BestPost (s : Sto) (w : World) : Ending → World → Prop := fun e w' => e = .returned (.tuple #[.int .i64 (bestV s).1, .int .i64 (bestV s).2.1, .int .i64 (bestV s).2.2, .int .i64 (sureE s true)]) ∧ Below w.heap.size w w'
theorem BsStart (w : World) (s : Sto) (p : Option Addr) (n c : Nat) : Boxed1 w #[.int .i64 s.wide, .int .i64 s.high, .int .i64 s.fall, .int .i64 s.a.lo, .int .i64 s.a.hi, .int .i64 s.b.lo, .int .i64 s.b.hi, .int .i64 s.half.lo, .int .i64 s.half.hi, .int .i64 s.peak.lo, .int .i64 s.peak.hi, .slice p n c] 35 ((((w.alloc (.cells #[.int .i64 s.wide, .int .i64 s.high, .int .i64 s.fall, .int .i64 s.a.lo, .int .i64 s.a.hi, .int .i64 s.b.lo, .int .i64 s.b.hi, .int .i64 s.half.lo, .int .i64 s.half.hi, .int .i64 s.peak.lo, .int .i64 s.peak.hi, .slice p n c] 35)).alloc (.cells #[.int .i64 0] 3)).alloc (.cells #[.int .i64 0] 3)).alloc (.cells #[.int .i64 0] 3)) ∧ BoxIs (w.heap.size + 1) #[.int .i64 0] ((((w.alloc (.cells #[.int .i64 s.wide, .int .i64 s.high, .int .i64 s.fall, .int .i64 s.a.lo, .int .i64 s.a.hi, .int .i64 s.b.lo, .int .i64 s.b.hi, .int .i64 s.half.lo, .int .i64 s.half.hi, .int .i64 s.peak.lo, .int .i64 s.peak.hi, .slice p n c] 35)).alloc (.cells #[.int .i64 0] 3)).alloc (.cells #[.int .i64 0] 3)).alloc (.cells #[.int .i64 0] 3)) ∧ BoxIs (w.heap.size + 2) #[.int .i64 0] ((((w.alloc (.cells #[.int .i64 s.wide, .int .i64 s.high, .int .i64 s.fall, .int .i64 s.a.lo, .int .i64 s.a.hi, .int .i64 s.b.lo, .int .i64 s.b.hi, .int .i64 s.half.lo, .int .i64 s.half.hi, .int .i64 s.peak.lo, .int .i64 s.peak.hi, .slice p n c] 35)).alloc (.cells #[.int .i64 0] 3)).alloc (.cells #[.int .i64 0] 3)).alloc (.cells #[.int .i64 0] 3)) ∧ BoxIs (w.heap.size + 3) #[.int .i64 0] ((((w.alloc (.cells #[.int .i64 s.wide, .int .i64 s.high, .int .i64 s.fall, .int .i64 s.a.lo, .int .i64 s.a.hi, .int .i64 s.b.lo, .int .i64 s.b.hi, .int .i64 s.half.lo, .int .i64 s.half.hi, .int .i64 s.peak.lo, .int .i64 s.peak.hi, .slice p n c] 35)).alloc (.cells #[.int .i64 0] 3)).alloc (.cells #[.int .i64 0] 3)).alloc (.cells #[.int .i64 0] 3)) := by
  have h1 := BoxIs.start (w.alloc (.cells #[.int .i64 s.wide, .int .i64 s.high, .int .i64 s.fall, .int .i64 s.a.lo, .int .i64 s.a.hi, .int .i64 s.b.lo, .int .i64 s.b.hi, .int .i64 s.half.lo, .int .i64 s.half.hi, .int .i64 s.peak.lo, .int .i64 s.peak.hi, .slice p n c] 35)) #[.int .i64 0] 3
  have h2 := BoxIs.start ((w.alloc (.cells #[.int .i64 s.wide, .int .i64 s.high, .int .i64 s.fall, .int .i64 s.a.lo, .int .i64 s.a.hi, .int .i64 s.b.lo, .int .i64 s.b.hi, .int .i64 s.half.lo, .int .i64 s.half.hi, .int .i64 s.peak.lo, .int .i64 s.peak.hi, .slice p n c] 35)).alloc (.cells #[.int .i64 0] 3)) #[.int .i64 0] 3
  have h3 := BoxIs.start (((w.alloc (.cells #[.int .i64 s.wide, .int .i64 s.high, .int .i64 s.fall, .int .i64 s.a.lo, .int .i64 s.a.hi, .int .i64 s.b.lo, .int .i64 s.b.hi, .int .i64 s.half.lo, .int .i64 s.half.hi, .int .i64 s.peak.lo, .int .i64 s.peak.hi, .slice p n c] 35)).alloc (.cells #[.int .i64 0] 3)).alloc (.cells #[.int .i64 0] 3)) #[.int .i64 0] 3
  simp only [World.size_alloc] at h1 h2 h3
  refine ⟨(((Boxed1.start _ _ _).alloc _).alloc _).alloc _, ?_, ?_, h3⟩
  · exact (h1.below ((Below.refl _ _).alloc (Nat.le_refl _) _)).below ((Below.refl _ _).alloc (Nat.le_refl _) _)
  · exact h2.below ((Below.refl _ _).alloc (Nat.le_refl _) _)

set_option maxRecDepth 40000 in
set_option maxHeartbeats 8000000 in
theorem best_any (s : Sto) (p : Option Addr) (n c : Nat) (w : World) (hcs : CrdsAt w p n s.cards) :
    Calls Try.prog 21 #[.agg #[.int .i64 s.wide, .int .i64 s.high, .int .i64 s.fall, .int .i64 s.a.lo, .int .i64 s.a.hi, .int .i64 s.b.lo, .int .i64 s.b.hi, .int .i64 s.half.lo, .int .i64 s.half.hi, .int .i64 s.peak.lo, .int .i64 s.peak.hi, .slice p n c]] w (BestPost s w) := by
  have HA := hid (fun W (hB : Below w.heap.size w W) => asked77_any s p n c true W (hcs.below hB) (fun _ W' _ => anything_any W'))
  clear hcs
  have HV := hid (show bestV s = if sureE s true = 0 then bestT s (truthL s) else (0, 0, 0) from rfl)
  obtain ⟨hs0, hs1, hs2, hs3⟩ := BsStart w s p n c
  obtain ⟨W0, hW0⟩ : ∃ W, ((((w.alloc (.cells #[.int .i64 s.wide, .int .i64 s.high, .int .i64 s.fall, .int .i64 s.a.lo, .int .i64 s.a.hi, .int .i64 s.b.lo, .int .i64 s.b.hi, .int .i64 s.half.lo, .int .i64 s.half.hi, .int .i64 s.peak.lo, .int .i64 s.peak.hi, .slice p n c] 35)).alloc (.cells #[.int .i64 0] 3)).alloc (.cells #[.int .i64 0] 3)).alloc (.cells #[.int .i64 0] 3)) = W := ⟨_, rfl⟩
  rw [hW0] at hs0 hs1 hs2 hs3
  have H0 := hid hs0; have H1 := hid hs1; have H2 := hid hs2; have H3 := hid hs3
  have HZ0 : Hid (W0.heap.size = w.heap.size + 4) := by show _ = _; rw [← hW0]; simp
  have e0 := (StoAt.of hs0.cell).c0; have e1 := (StoAt.of hs0.cell).c1; have e2 := (StoAt.of hs0.cell).c2; have e3 := (StoAt.of hs0.cell).c3; have e4 := (StoAt.of hs0.cell).c4; have e5 := (StoAt.of hs0.cell).c5; have e6 := (StoAt.of hs0.cell).c6; have e7 := (StoAt.of hs0.cell).c7; have e8 := (StoAt.of hs0.cell).c8; have e9 := (StoAt.of hs0.cell).c9; have e10 := (StoAt.of hs0.cell).c10; have e11 := (StoAt.of hs0.cell).c11
  clear hs0 hs1 hs2 hs3
  refine (callsIn_wide (n := 22)).1 ?_
  refine callsIn_of_wp_marks Try.func21 rfl trivial ?_ rfl
  simp only [Try.ntmps21, List.size_toArray, List.length_cons, List.length_nil, Nat.reduceAdd, Nat.reduceSub, Array.replicate_succ, Array.replicate_zero, List.push_toArray, List.append_toArray, List.nil_append, List.cons_append]
  gi_wp2
  refine ⟨trivial, ?_⟩
  simp only [Nat.add_assoc, Nat.reduceAdd]
  gi_at_call 72
  refine (callsIn_wide.2 (HA.out _ H0.out.below)).mono ?_
  rintro e w1 ⟨pw, v, rfl, hown, hb⟩
  have H0 := hid (H0.out.step hb); have H1 := hid (H1.out.below hb); have H2 := hid (H2.out.below hb); have H3 := hid (H3.out.below hb)
  have HBL : Hid (w.heap.size + 4 ≤ w1.heap.size) := hid (by have := hb.size; have := HZ0.out; omega)
  obtain ⟨q, d, rfl, hrow⟩ := hown.slice cellsT_len
  have HR := hid hrow
  have HQ := hid ((rowIn_own hown).mono (lo' := w.heap.size + 4) (by have := HZ0.out; omega) (Nat.le_refl _))
  clear hown hrow hb hW0 e0 e1 e2 e3 e4 e5 e6 e7 e8 e9 e10 e11
  obtain ⟨W1, hW1⟩ : ∃ V, w1.alloc (.cells #[.slice q (sureL s true).length d] 121) = V := ⟨_, rfl⟩
  have hba : Below w1.heap.size w1 W1 := by rw [← hW1]; exact (Below.refl _ _).alloc (Nat.le_refl _) _
  have HLI : Hid (BoxIs w1.heap.size #[.slice q (sureL s true).length d] W1) := by show BoxIs _ _ _; rw [← hW1]; exact BoxIs.start w1 _ 121
  have HZ1 : Hid (W1.heap.size = w1.heap.size + 1) := by show _ = _; rw [← hW1]; simp
  have H0 := hid (H0.out.step hba); have H1 := hid (H1.out.below hba); have H2 := hid (H2.out.below hba); have H3 := hid (H3.out.below hba); have HR := hid (HR.out.below hba)
  clear hba
  have l0 := (HLI.out.2 0 (.slice q (sureL s true).length d) rfl).1; have l1 := (HLI.out.2 0 (.slice q (sureL s true).length d) rfl).2
  by_cases hE : sureE s true = 0
  · obtain ⟨ok, _, hne⟩ := sure_ok hE
    have HS := hid ok.small
    have HWH : Hid ((2 ≤ s.wide ∧ s.wide ≤ 12) ∧ (1 ≤ s.high ∧ s.high ≤ 12)) := hid ⟨⟨ok.w2, ok.w12⟩, ok.h1, ok.h12⟩
    have HTR := hid (fun t (ht : t ∈ truthL s) => ok.smallT (mem_poss.1 (List.mem_filter.1 ht).1))
    have hlen := truth_len ok
    have HVV : Hid (bestV s = bestT s (truthL s)) := by show _ = _; rw [HV.out, if_pos hE]
    have hl : sureL s true = truthL s := by rw [sureL, if_pos hE]
    rw [hl] at HR HQ HLI hW1 l0 ⊢
    have HRE : Hid (sureE s true = 0) := hid hE
    rw [hE]
    clear hE ok hne hl HV
    obtain ⟨L, hL⟩ : ∃ L, truthL s = L := ⟨_, rfl⟩
    rw [hL] at HR HQ HTR hlen HVV HLI hW1 l0 ⊢
    obtain ⟨N, hN⟩ : ∃ N, L.length = N := ⟨_, rfl⟩
    rw [hN] at HR HQ hlen HLI hW1 l0 ⊢
    have HN := hid hN; have HLE := hid hlen
    clear hL hN
    have HSZ := hid (fun t (ht : t ∈ L) a b W => size_any s p n c t a b W HS.out (HTR.out t ht))
    have HG := hid (fun W B (hR : RecAt W B ⟨0, s.wide - 1⟩ ⟨0, s.high - 1⟩) => places_gives ⟨0, s.wide - 1⟩ ⟨0, s.high - 1⟩ B (by have := HWH.out; constructor <;> simp <;> omega) (by have := HWH.out; constructor <;> simp <;> omega) W 21 hR)
    obtain ⟨W2, hW2⟩ : ∃ V, W1.setCell ⟨w.heap.size + 3, 0, none⟩ (.int .i64 ((N : Int) + 1)) = V := ⟨_, rfl⟩
    have HB2 : Hid (BsBox w s p n c w1.heap.size q N d L 0 0 ((N : Int) + 1) W2) := by
      have := HBL.out
      refine ⟨?_, ?_, ?_, ?_, ?_, ?_⟩
      · rw [← hW2]; exact Below.setCell H0.out (p := ⟨w.heap.size + 3, 0, none⟩) (by show w.heap.size + 1 ≤ w.heap.size + 3; omega) _
      · rw [← hW2]; exact H1.out.other (by omega) _
      · rw [← hW2]; exact H2.out.other (by omega) _
      · rw [← hW2]; exact H3.out.put (j := 0) _
      · rw [← hW2]; exact HLI.out.other (by omega) _
      · rw [← hW2]; exact HR.out.near ((Near.refl (fun k => k = w.heap.size + 3) _).setCell (p := ⟨w.heap.size + 3, 0, none⟩) (fun _ => rfl) _) (fun a ha h0 hs => by have := (HQ.out a ha h0).1; omega)
    have HZ2 : Hid (W2.heap.size = w1.heap.size + 1) := by show _ = _; rw [← hW2]; simpa [World.setCell] using HZ1.out
    have m0 := (H3.out.2 0 (.int .i64 0) rfl).1; have m1 := (H3.out.2 0 (.int .i64 0) rfl).2
    have e0 := (StoAt.of HB2.out.b.cell).c0; have e1 := (StoAt.of HB2.out.b.cell).c1
    have q0 := HWH.out.1.1; have q1 := HWH.out.1.2; have q2 := HWH.out.2.1; have q3 := HWH.out.2.2
    gi_wp2
    refine ⟨trivial, ?_⟩
    gi_at_call 78
    refine (callsIn_wide.2 (placesF_any ⟨0, s.wide - 1⟩ ⟨0, s.high - 1⟩ _)).mono ?_
    rintro e w5 ⟨rfl, rfl⟩
    clear m0 m1 e0 e1 q0 q1 q2 q3 hW2 hW1 hlen l0 l1
    gi_wp2
    obtain ⟨W5, hW5⟩ : ∃ W, W2.alloc (.cells #[.int .i64 0, .int .i64 (s.wide - 1), .int .i64 0, .int .i64 (s.high - 1)] 70) = W := ⟨_, rfl⟩
    have hR5 : RecAt W5 W2.heap.size ⟨0, s.wide - 1⟩ ⟨0, s.high - 1⟩ := by rw [← hW5]; exact RecAt.of (fun i v hi => cell_box W2 _ 70 i v hi)
    have hb5 : Below W2.heap.size W2 W5 := by rw [← hW5]; exact (Below.refl _ _).alloc (Nat.le_refl _) _
    have hz5 : W5.heap.size = w1.heap.size + 2 := by rw [← hW5, World.size_alloc, HZ2.out]
    have hz2 := HZ2.out; have hbl := HBL.out
    rw [hW5]
    clear hW5
    refine wpIn_rangeFunc_near3 rfl (by omega) (gf := 113) (lb := #[.pointer (some ⟨W2.heap.size, 0, none⟩)]) rfl trivial (enters_of Try.func113 (by kernel_rfl) rfl) (fun p => (rfl : (encP p).size = #[36, 37].size))
      (HG.out W5 W2.heap.size hR5) (Below.refl _ _) (fun i hi => by omega) (fun i => i = w.heap.size + 1 ∨ i = w.heap.size + 2 ∨ i = w.heap.size + 3) (fun i hi => ⟨by omega, by omega⟩)
      (fun pre W => BsBox w s p n c w1.heap.size q N d L (pre.foldl (bestStep s L) (0, 0, (N : Int) + 1)).1 (pre.foldl (bestStep s L) (0, 0, (N : Int) + 1)).2.1 (pre.foldl (bestStep s L) (0, 0, (N : Int) + 1)).2.2 W)
      (fun pre W => False)
      (fun pre W1 W2 h hn => h.near hn (by omega) HQ.out HBL.out)
      (fun pre W1 W2 h hn => h)
      (HB2.out.step hb5) ?round ?done ?stop
    case round =>
      rintro pre ⟨a, b⟩ rest W hall hsz hB
      have hmem : (a, b) ∈ placesL ⟨0, s.wide - 1⟩ ⟨0, s.high - 1⟩ := by rw [hall]; simp
      have hxy := mem_places.1 hmem
      simp only at hxy
      have q0 := HWH.out.1.1; have q1 := HWH.out.1.2; have q2 := HWH.out.2.1; have q3 := HWH.out.2.2
      have HAB : Hid ((0 ≤ a ∧ a ≤ 11) ∧ (0 ≤ b ∧ b ≤ 11)) := hid ⟨⟨by omega, by omega⟩, by omega, by omega⟩
      have HBS := hid (best_snoc s L pre (a, b) (0, 0, (N : Int) + 1))
      obtain ⟨⟨X, Y, M⟩, hst⟩ : ∃ st, pre.foldl (bestStep s L) (0, 0, (N : Int) + 1) = st := ⟨_, rfl⟩
      rw [hst] at hB HBS
      simp only at hB
      have HB := hid hB; have HSI := hid hsz
      have HZ5 : Hid (W5.heap.size = w1.heap.size + 2) := hz5
      clear hall hB hsz hmem hxy q0 q1 q2 q3 hz5 hz2 hbl hb5 hR5 hst
      simp only [encP]
      gi_wp2
      refine ⟨Near.refl _ _, fun W3 hn3 => ?_⟩
      have HB3 : Hid (BsBox w s p n c w1.heap.size q N d L X Y M W3) := HB.out.near hn3 (fun i hi => by have := HZ5.out; omega) HQ.out HBL.out
      clear hn3 HB
      have l0 := (HB3.out.l.2 0 (.slice q N d) rfl).1
      gi_wp2
      clear l0
      gi_loopw [10, 40] (fun u i wr => ∃ k : Nat, k ≤ N ∧ i = .int .i64 k ∧ u = .int .i64 (hitN s (L.take k) a b) ∧ Below W3.heap.size W3 wr) (fun _ i _ => N - (intOf i).toNat)
      case atStart => exact ⟨0, by omega, rfl, by simp [hitN], Below.refl _ _⟩
      case round =>
        obtain ⟨k, hk, rfl, rfl, hbw⟩ := hrel
        have hlen := HLE.out
        have HB4 := hid (HB3.out.step hbw)
        have HBW := hid hbw
        by_cases hlt : k < N
        · obtain ⟨t, ht, b1, o1, rfl, hlt1, hc⟩ := HB4.out.r.at hlt
          have c0 : wr.cell? ⟨b1, o1 + k * 4, none⟩ = some (.int .i64 t.a) := hc 0 _ rfl
          have c1 : wr.cell? ⟨b1, o1 + k * 4 + 1, none⟩ = some (.int .i64 t.b) := hc 1 _ rfl
          have c2 : wr.cell? ⟨b1, o1 + k * 4 + 2, none⟩ = some (.int .i64 t.half) := hc 2 _ rfl
          have c3 : wr.cell? ⟨b1, o1 + k * 4 + 3, none⟩ = some (.int .i64 t.peak) := hc 3 _ rfl
          have HZT := hid (HSZ.out t (List.mem_of_getElem? ht) a b)
          have HSN := hid (hitN_snoc (s := s) (x := a) (y := b) ht)
          have hle := hitN_le s (L.take k) a b
          rw [List.length_take_of_le (by have := HN.out; omega)] at hle
          obtain ⟨C, hC⟩ : ∃ C, hitN s (L.take k) a b = C := ⟨_, rfl⟩
          rw [hC] at HSN hle
          rw [hC]
          have hC0 := hle.1
          have hC1 : C ≤ 2000 := by have := HLE.out; omega
          clear hC ht hc hbw hle
          obtain ⟨W6, hW6⟩ : ∃ V, wr.alloc (.cells #[.int .i64 t.a, .int .i64 t.b, .int .i64 t.half, .int .i64 t.peak] 94) = V := ⟨_, rfl⟩
          have hba : Below wr.heap.size wr W6 := by rw [← hW6]; exact (Below.refl _ _).alloc (Nat.le_refl _) _
          have hT6 : TruAt W6 wr.heap.size t := by rw [← hW6]; exact TruAt.of (cell_box wr _ 94)
          have HB6 := hid (HB4.out.step hba)
          have HBW6 := hid (HBW.out.trans (hba.mono HBW.out.size))
          have e0 := (StoAt.of HB6.out.b.cell).c0; have e1 := (StoAt.of HB6.out.b.cell).c1; have e2 := (StoAt.of HB6.out.b.cell).c2; have e3 := (StoAt.of HB6.out.b.cell).c3; have e4 := (StoAt.of HB6.out.b.cell).c4; have e5 := (StoAt.of HB6.out.b.cell).c5; have e6 := (StoAt.of HB6.out.b.cell).c6; have e7 := (StoAt.of HB6.out.b.cell).c7; have e8 := (StoAt.of HB6.out.b.cell).c8; have e9 := (StoAt.of HB6.out.b.cell).c9; have e10 := (StoAt.of HB6.out.b.cell).c10; have e11 := (StoAt.of HB6.out.b.cell).c11
          have f0 := hT6.c0; have f1 := hT6.c1; have f2 := hT6.c2; have f3 := hT6.c3
          clear hba hT6
          gi_wp2
          refine ⟨trivial, ?_⟩
          gi_at_call 75
          refine (CallsIn.inRound _ (callsIn_wide.2 (HZT.out _ HAB.out.1.1 HAB.out.1.2 HAB.out.2.1 HAB.out.2.2))).mono ?_
          rintro e W7 ⟨rfl, hb7⟩
          have HBW7 := hid (HBW6.out.trans (hb7.mono HBW6.out.size))
          clear hb7 hW6 c0 c1 c2 c3 f0 f1 f2 f3 e0 e1 e2 e3 e4 e5 e6 e7 e8 e9 e10 e11
          have h6 : decide (0 < sizeS s t a b) = hitB s t a b := size_pos
          cases hh : hitB s t a b
          · have hz : ¬ 0 < sizeS s t a b := by rw [hh] at h6; simpa using h6
            have HSS : Hid (hitN s (L.take (k + 1)) a b = C) := by show _ = _; rw [HSN.out, hh]; simp
            generalize sizeS s t a b = z at *
            clear h6 hh HSN
            gi_wp2
            go_roundw
            case rel => exact ⟨k + 1, by omega, by go_num, by rw [HSS.out], HBW7.out⟩
            case measure => simp [intOf]; omega
          · have hz : 0 < sizeS s t a b := by rw [hh] at h6; simpa using h6
            have HSS : Hid (hitN s (L.take (k + 1)) a b = C + 1) := by show _ = _; rw [HSN.out, hh]; simp
            generalize sizeS s t a b = z at *
            clear h6 hh HSN
            gi_wp2
            go_roundw
            case rel => exact ⟨k + 1, by omega, by go_num, by rw [HSS.out], HBW7.out⟩
            case measure => simp [intOf]; omega
        · have hkN : k = N := by omega
          subst hkN
          have hL9 : L.take k = L := by rw [← HN.out]; exact List.take_length
          rw [hL9]
          have hle := hitN_le s L a b
          have HWT := hid (show worstT s L a b = if hitN s L a b < (L.length : Int) - hitN s L a b then (L.length : Int) - hitN s L a b else hitN s L a b from rfl)
          have HBD := hid (show bestStep s L (X, Y, M) (a, b) = if worstT s L a b < M then (a, b, worstT s L a b) else (X, Y, M) from rfl)
          rw [HN.out] at HWT hle
          obtain ⟨C, hC⟩ : ∃ C, hitN s L a b = C := ⟨_, rfl⟩
          rw [hC] at HWT hle ⊢
          have hC0 := hle.1
          have hC1 := hle.2
          clear hL9 hC hbw hle
          have l0 := (HB4.out.l.2 0 (.slice q k d) rfl).1; have m0 := (HB4.out.m.2 0 (.int .i64 M) rfl).1; have m1 := (HB4.out.m.2 0 (.int .i64 M) rfl).2
          have x0 := (HB4.out.x.2 0 (.int .i64 X) rfl).1; have x1 := (HB4.out.x.2 0 (.int .i64 X) rfl).2; have y0 := (HB4.out.y.2 0 (.int .i64 Y) rfl).1; have y1 := (HB4.out.y.2 0 (.int .i64 Y) rfl).2
          have HNR : Hid (Near (fun i => i = w.heap.size + 1 ∨ i = w.heap.size + 2 ∨ i = w.heap.size + 3) W3 wr) := hid ((near_below HBW.out).mono (fun _ _ h => h.elim))
          by_cases hmx : C < (k : Int) - C
          · have HW : Hid (worstT s L a b = ((k : Int) - C)) := by show _ = _; rw [HWT.out, if_pos hmx]
            rw [HW.out] at HBD
            by_cases hlt2 : ((k : Int) - C) < M
            · have HBE : Hid (bestStep s L (X, Y, M) (a, b) = (a, b, ((k : Int) - C))) := by show _ = _; rw [HBD.out, if_pos hlt2]
              clear HBD
              gi_wp2
              exact ⟨HNR.out.trans (near_set3 a b ((k : Int) - C) wr), by show BsBox _ _ _ _ _ _ _ _ _ _ _ _ _ _; rw [HBS.out, HBE.out]; exact HB4.out.set HQ.out HBL.out a b ((k : Int) - C)⟩
            · have HBE : Hid (bestStep s L (X, Y, M) (a, b) = (X, Y, M)) := by show _ = _; rw [HBD.out, if_neg hlt2]
              clear HBD
              gi_wp2
              exact ⟨HNR.out, by show BsBox _ _ _ _ _ _ _ _ _ _ _ _ _ _; rw [HBS.out, HBE.out]; exact HB4.out⟩
          · have HW : Hid (worstT s L a b = C) := by show _ = _; rw [HWT.out, if_neg hmx]
            rw [HW.out] at HBD
            by_cases hlt2 : C < M
            · have HBE : Hid (bestStep s L (X, Y, M) (a, b) = (a, b, C)) := by show _ = _; rw [HBD.out, if_pos hlt2]
              clear HBD
              gi_wp2
              exact ⟨HNR.out.trans (near_set3 a b C wr), by show BsBox _ _ _ _ _ _ _ _ _ _ _ _ _ _; rw [HBS.out, HBE.out]; exact HB4.out.set HQ.out HBL.out a b C⟩
            · have HBE : Hid (bestStep s L (X, Y, M) (a, b) = (X, Y, M)) := by show _ = _; rw [HBD.out, if_neg hlt2]
              clear HBD
              gi_wp2
              exact ⟨HNR.out, by show BsBox _ _ _ _ _ _ _ _ _ _ _ _ _ _; rw [HBS.out, HBE.out]; exact HB4.out⟩
    case done =>
      rintro W hB hK hsz
      have HVB : Hid (bestV s = (placesL ⟨0, s.wide - 1⟩ ⟨0, s.high - 1⟩).foldl (bestStep s L) (0, 0, (N : Int) + 1)) := by show _ = _; rw [HVV.out, bestT, HN.out]
      obtain ⟨⟨X, Y, M⟩, hst⟩ : ∃ st, (placesL ⟨0, s.wide - 1⟩ ⟨0, s.high - 1⟩).foldl (bestStep s L) (0, 0, (N : Int) + 1) = st := ⟨_, rfl⟩
      rw [hst] at hB HVB
      simp only at hB
      have HB := hid hB; have HK := hid hK
      have HZ5 : Hid (W5.heap.size = w1.heap.size + 2) := hz5
      clear hB hK hsz hz5 hz2 hbl hb5 hR5 hst
      gi_wp2
      refine wpIn_tame ?_
      refine wpIn_region_anyS (S := fun V => BsBox w s p n c w1.heap.size q N d L X Y M V ∧ Below w.heap.size w V ∧ V.heap[W5.heap.size]? = some (.deferred (some []))) (by kernel_rfl) ⟨HB.out.step (Below.refl _ _).drew, HB.out.b.below.drew, HK.out⟩ (fun hS => ?_)
      simp only [List.size_toArray, List.length_cons, List.length_nil, Nat.reduceAdd, Array.replicate_succ, Array.replicate_zero, List.push_toArray, List.nil_append, List.cons_append]
      refine anyS_take (i := 0) (v := ?_) rfl rfl (by kernel_rfl) (by kernel_rfl) (by kernel_rfl) (nq_panic _ _) (Or.inl ⟨by rfl, fun V hV => ?_⟩) (fun _ => rfl) (by assumption) ?_
      rotate_left
      · have e0 := (hV.1.x.2 0 (.int .i64 X) rfl).1; go_simp
        try with_reducible rfl
      try simp only [Act.put, List.getElem_toArray, List.getElem_cons_zero, List.setIfInBounds_toArray, List.set_cons_zero, List.set_cons_succ]
      refine anyS_take (i := 1) (v := ?_) rfl rfl (by kernel_rfl) (by kernel_rfl) (by kernel_rfl) (nq_panic _ _) (Or.inl ⟨by rfl, fun V hV => ?_⟩) (fun _ => rfl) (by assumption) ?_
      rotate_left
      · have e0 := (hV.1.y.2 0 (.int .i64 Y) rfl).1; go_simp
        try with_reducible rfl
      try simp only [Act.put, List.getElem_toArray, List.getElem_cons_zero, List.getElem_cons_succ, List.setIfInBounds_toArray, List.set_cons_zero, List.set_cons_succ]
      refine anyS_take (i := 2) (v := ?_) rfl rfl (by kernel_rfl) (by kernel_rfl) (by kernel_rfl) (nq_panic _ _) (Or.inl ⟨by rfl, fun V hV => ?_⟩) (fun _ => rfl) (by assumption) ?_
      rotate_left
      · have e0 := (hV.1.m.2 0 (.int .i64 M) rfl).1; go_simp
        try with_reducible rfl
      try simp only [Act.put, List.getElem_toArray, List.getElem_cons_zero, List.getElem_cons_succ, List.setIfInBounds_toArray, List.set_cons_zero, List.set_cons_succ]
      refine anyS_one (i := 3) (by kernel_rfl) rfl (fun K hK => ?_)
      have k0 := (hS.1.x.2 0 (.int .i64 X) rfl).1; have k1 := (hS.1.x.2 0 (.int .i64 X) rfl).2
      go_simp
      refine hK.out _ _ ⟨⟨Below.setCell hS.1.b (p := ⟨w.heap.size + 1, 0, none⟩) (by show w.heap.size + 1 ≤ w.heap.size + 1; omega) _, hS.1.x.put (j := 0) (.int .i64 X), hS.1.y.other (by omega) _, hS.1.m.other (by omega) _, hS.1.l.other (by have := HBL.out; omega) _, hS.1.r.near ((Near.refl (fun k => k = w.heap.size + 1) _).setCell (p := ⟨w.heap.size + 1, 0, none⟩) (fun _ => rfl) _) (fun a ha h0 hs => by have := (HQ.out a ha h0).1; omega)⟩, hS.2.1.setCell (p := ⟨w.heap.size + 1, 0, none⟩) (by show w.heap.size ≤ w.heap.size + 1; omega) _, (Below.heap_setCell _ _ _ _ (by show W5.heap.size ≠ w.heap.size + 1; have := HZ5.out; have := HBL.out; omega)).trans hS.2.2⟩ (fun hS => ?_)
      clear hK K k0 k1
      try simp only [List.setIfInBounds_toArray, List.set_cons_zero, List.set_cons_succ]
      refine anyS_one (i := 4) (by kernel_rfl) rfl (fun K hK => ?_)
      have k0 := (hS.1.y.2 0 (.int .i64 Y) rfl).1; have k1 := (hS.1.y.2 0 (.int .i64 Y) rfl).2
      go_simp
      refine hK.out _ _ ⟨⟨Below.setCell hS.1.b (p := ⟨w.heap.size + 2, 0, none⟩) (by show w.heap.size + 1 ≤ w.heap.size + 2; omega) _, hS.1.x.other (by omega) _, hS.1.y.put (j := 0) (.int .i64 Y), hS.1.m.other (by omega) _, hS.1.l.other (by have := HBL.out; omega) _, hS.1.r.near ((Near.refl (fun k => k = w.heap.size + 2) _).setCell (p := ⟨w.heap.size + 2, 0, none⟩) (fun _ => rfl) _) (fun a ha h0 hs => by have := (HQ.out a ha h0).1; omega)⟩, hS.2.1.setCell (p := ⟨w.heap.size + 2, 0, none⟩) (by show w.heap.size ≤ w.heap.size + 2; omega) _, (Below.heap_setCell _ _ _ _ (by show W5.heap.size ≠ w.heap.size + 2; have := HZ5.out; have := HBL.out; omega)).trans hS.2.2⟩ (fun hS => ?_)
      clear hK K k0 k1
      try simp only [List.setIfInBounds_toArray, List.set_cons_zero, List.set_cons_succ]
      refine anyS_one (i := 5) (by kernel_rfl) rfl (fun K hK => ?_)
      have k0 := (hS.1.m.2 0 (.int .i64 M) rfl).1; have k1 := (hS.1.m.2 0 (.int .i64 M) rfl).2
      go_simp
      refine hK.out _ _ ⟨⟨Below.setCell hS.1.b (p := ⟨w.heap.size + 3, 0, none⟩) (by show w.heap.size + 1 ≤ w.heap.size + 3; omega) _, hS.1.x.other (by omega) _, hS.1.y.other (by omega) _, hS.1.m.put (j := 0) (.int .i64 M), hS.1.l.other (by have := HBL.out; omega) _, hS.1.r.near ((Near.refl (fun k => k = w.heap.size + 3) _).setCell (p := ⟨w.heap.size + 3, 0, none⟩) (fun _ => rfl) _) (fun a ha h0 hs => by have := (HQ.out a ha h0).1; omega)⟩, hS.2.1.setCell (p := ⟨w.heap.size + 3, 0, none⟩) (by show w.heap.size ≤ w.heap.size + 3; omega) _, (Below.heap_setCell _ _ _ _ (by show W5.heap.size ≠ w.heap.size + 3; have := HZ5.out; have := HBL.out; omega)).trans hS.2.2⟩ (fun hS => ?_)
      clear hK K k0 k1
      try simp only [List.setIfInBounds_toArray, List.set_cons_zero, List.set_cons_succ]
      refine anyS_take (i := 6) (v := ?_) rfl rfl (by kernel_rfl) (by kernel_rfl) (by kernel_rfl) (nq_panic _ _) (Or.inl ⟨by rfl, fun V hV => ?_⟩) (fun _ => rfl) (by assumption) ?_
      rotate_left
      · go_simp
        try with_reducible rfl
      try simp only [Act.put, List.getElem_toArray, List.getElem_cons_zero, List.getElem_cons_succ, List.setIfInBounds_toArray, List.set_cons_zero, List.set_cons_succ]
      refine anyS_done (by kernel_rfl) ⟨rfl, ?_⟩ _
      gi_wp2
      have hz5 := HZ5.out
      have hbl := HBL.out
      refine ⟨by simp, .inl ⟨_, _, rfl, run_takeDeferred hS.2.2, ?_⟩⟩
      have hN9 := hS.1.near (Near.putObj W5.heap.size (.deferred none)) (fun k hk => by omega) HQ.out HBL.out
      have x0 := (hN9.x.2 0 (.int .i64 X) rfl).1; have y0 := (hN9.y.2 0 (.int .i64 Y) rfl).1; have m0 := (hN9.m.2 0 (.int .i64 M) rfl).1
      refine ⟨.tuple #[.int .i64 X, .int .i64 Y, .int .i64 M, .int .i64 0], ?_, ?_, ?_⟩
      · simp [results, Try.f21, go_sem, x0, y0, m0]
      · rw [HVB.out, HRE.out]
      · exact hS.2.1.trans ((Near.putObj _ _).below hS.2.1.size (fun i hi => by omega))
    case stop =>
      rintro pre rest W hall hx hK hsz
      exact hx.elim
  · have hE' : (sureE s true != 0) = true := by simp [hE]
    have HF : Hid (bestV s = (0, 0, 0)) := by show _ = _; rw [HV.out, if_neg hE]
    have HN := hid hE
    clear hE
    have x0 := (H1.out.2 0 (.int .i64 0) rfl).1; have x1 := (H1.out.2 0 (.int .i64 0) rfl).2; have y0 := (H2.out.2 0 (.int .i64 0) rfl).1; have y1 := (H2.out.2 0 (.int .i64 0) rfl).2; have m0 := (H3.out.2 0 (.int .i64 0) rfl).1; have m1 := (H3.out.2 0 (.int .i64 0) rfl).2
    gi_wp2
    have hz := (((H1.out.put (j := 0) (.int .i64 0)).other (b' := w.heap.size + 2) (k' := 0) (by omega) (.int .i64 0)).other (b' := w.heap.size + 3) (k' := 0) (by omega) (.int .i64 0))
    have hz2 := (((H2.out.other (b' := w.heap.size + 1) (k' := 0) (by omega) (.int .i64 0)).put (j := 0) (.int .i64 0)).other (b' := w.heap.size + 3) (k' := 0) (by omega) (.int .i64 0))
    have hz3 := (((H3.out.other (b' := w.heap.size + 1) (k' := 0) (by omega) (.int .i64 0)).other (b' := w.heap.size + 2) (k' := 0) (by omega) (.int .i64 0)).put (j := 0) (.int .i64 0))
    have x0 := (hz.2 0 (.int .i64 0) rfl).1; have y0 := (hz2.2 0 (.int .i64 0) rfl).1; have m0 := (hz3.2 0 (.int .i64 0) rfl).1
    refine ⟨.tuple #[.int .i64 0, .int .i64 0, .int .i64 0, .int .i64 (sureE s true)], ?_, ?_, ?_⟩
    · simp [results, Try.f21, go_sem, x0, y0, m0]
    · rw [HF.out]
    · exact ((H0.out.below.setCell (p := ⟨w.heap.size + 1, 0, none⟩) (by show w.heap.size ≤ w.heap.size + 1; omega) _).setCell (p := ⟨w.heap.size + 2, 0, none⟩) (by show w.heap.size ≤ w.heap.size + 2; omega) _).setCell (p := ⟨w.heap.size + 3, 0, none⟩) (by show w.heap.size ≤ w.heap.size + 3; omega) _
end Go.Proofs.Ytfnefkenheglhaa
