/- Package storm: the sizes at a place. No condition. -/
import Derived.Test.YtfnefkenheglhaaP10
namespace Go.Proofs.Ytfnefkenheglhaa
open Go.RowKit

def fineS (s : Sto) (x y : Int) : Bool := inB x 0 (s.wide - 1) && inB y 0 (s.high - 1)
/-- The sizes at a place in some truths, from a first range on. -/
def spanT (s : Sto) (x y : Int) (r : Rng) (l : List Tru) : Rng := l.foldl (fun r t => widerR r (sizeS s t x y)) r
def firstT (s : Sto) (x y : Int) (l : List Tru) : Int := match l with
  | t :: _ => sizeS s t x y
  | [] => 0
def sizesV (s : Sto) (x y : Int) : Rng := if sureE s (fineS s x y) = 0 then spanT s x y ⟨firstT s x y (truthL s), firstT s x y (truthL s)⟩ (truthL s) else ⟨0, 0⟩
theorem spanT_snoc {s : Sto} {x y : Int} {r : Rng} {l : List Tru} {k : Nat} {t : Tru} (h : l[k]? = some t) : spanT s x y r (l.take (k + 1)) = widerR (spanT s x y r (l.take k)) (sizeS s t x y) := by
  unfold spanT
  rw [List.take_add_one, h, List.foldl_append]
  rfl

set_option maxRecDepth 40000 in
set_option maxHeartbeats 4000000 in
theorem fineS_any (s : Sto) (p : Option Addr) (n c b0 b1 b2 : Nat) (x y : Int) (w : World) (hx : w.cell? ⟨b0, 0, none⟩ = some (.int .i64 x)) (hs : StoAt w b1 s p n c) (hy : w.cell? ⟨b2, 0, none⟩ = some (.int .i64 y)) (ok : OkS s) :
    Calls Try.prog 73 #[.pointer (some ⟨b0, 0, none⟩), .pointer (some ⟨b1, 0, none⟩), .pointer (some ⟨b2, 0, none⟩)] w fun e w' => e = .returned (.bool (fineS s x y)) ∧ Below w.heap.size w w' := by
  have q1 := ok.w2; have q2 := ok.w12; have q3 := ok.h1; have q4 := ok.h12
  have e0 := hs.c0; have e1 := hs.c1
  have HF := hid (show fineS s x y = (inB x 0 (s.wide - 1) && inB y 0 (s.high - 1)) from rfl)
  clear ok
  cases h1 : inB x 0 (s.wide - 1)
  · go_enter Try.func73, Try.ntmps73
    go_wp2_with (go_at_call 74; refine (within_any _ _ _ _).mono ?_; rintro e w' ⟨rfl, rfl⟩)
    go_ret
    exact ⟨ret_bool (by rw [HF.out, h1]; rfl), Below.refl _ _⟩
  · go_enter Try.func73, Try.ntmps73
    go_wp2_with (go_at_call 74; refine (within_any _ _ _ _).mono ?_; rintro e w' ⟨rfl, rfl⟩)
    go_ret
    exact ⟨ret_bool (by rw [HF.out, h1]; rfl), Below.refl _ _⟩

/-- The boxes of Sizes. -/
structure SzBox (w : World) (s : Sto) (p : Option Addr) (n c : Nat) (x y : Int) (V : World) : Prop where
  b : Boxed1 w #[.int .i64 s.wide, .int .i64 s.high, .int .i64 s.fall, .int .i64 s.a.lo, .int .i64 s.a.hi, .int .i64 s.b.lo, .int .i64 s.b.hi, .int .i64 s.half.lo, .int .i64 s.half.hi, .int .i64 s.peak.lo, .int .i64 s.peak.hi, .slice p n c] 35 V
  x : V.cell? ⟨w.heap.size + 1, 0, none⟩ = some (.int .i64 x)
  y : V.cell? ⟨w.heap.size + 2, 0, none⟩ = some (.int .i64 y)
  r : BoxIs (w.heap.size + 3) #[.int .i64 0, .int .i64 0] V
theorem SzBox.step {w V V' : World} {s : Sto} {p : Option Addr} {n c : Nat} {x y : Int} (h : SzBox w s p n c x y V) (hb : Below V.heap.size V V') : SzBox w s p n c x y V' :=
  ⟨h.b.step hb, (hb.cell (p := ⟨w.heap.size + 1, 0, none⟩) (World.block_lt_of_cell? _ _ h.x)).trans h.x, (hb.cell (p := ⟨w.heap.size + 2, 0, none⟩) (World.block_lt_of_cell? _ _ h.y)).trans h.y, h.r.below hb⟩
theorem SzBox.put {w V : World} {s : Sto} {p : Option Addr} {n c : Nat} {x y : Int} (h : SzBox w s p n c x y V) {b j : Nat} (hb : w.heap.size + 4 ≤ b) (v : Value) : SzBox w s p n c x y (V.setCell ⟨b, j, none⟩ v) :=
  ⟨Below.setCell h.b (p := ⟨b, j, none⟩) (by show _ ≤ b; omega) v, (World.cell?_of_block (Below.heap_setCell _ _ _ _ (by show w.heap.size + 1 ≠ b; omega))).trans h.x, (World.cell?_of_block (Below.heap_setCell _ _ _ _ (by show w.heap.size + 2 ≠ b; omega))).trans h.y, h.r.other (by omega) v⟩
theorem SzBox.start (w : World) (s : Sto) (p : Option Addr) (n c : Nat) (x y : Int) : SzBox w s p n c x y ((((w.alloc (.cells #[.int .i64 s.wide, .int .i64 s.high, .int .i64 s.fall, .int .i64 s.a.lo, .int .i64 s.a.hi, .int .i64 s.b.lo, .int .i64 s.b.hi, .int .i64 s.half.lo, .int .i64 s.half.hi, .int .i64 s.peak.lo, .int .i64 s.peak.hi, .slice p n c] 35)).alloc (.cells #[.int .i64 x] 3)).alloc (.cells #[.int .i64 y] 3)).alloc (.cells #[.int .i64 0, .int .i64 0] 29)) := by
  have hx := cell_box (w.alloc (.cells #[.int .i64 s.wide, .int .i64 s.high, .int .i64 s.fall, .int .i64 s.a.lo, .int .i64 s.a.hi, .int .i64 s.b.lo, .int .i64 s.b.hi, .int .i64 s.half.lo, .int .i64 s.half.hi, .int .i64 s.peak.lo, .int .i64 s.peak.hi, .slice p n c] 35)) #[.int .i64 x] 3 0 _ rfl
  have hy := cell_box ((w.alloc (.cells #[.int .i64 s.wide, .int .i64 s.high, .int .i64 s.fall, .int .i64 s.a.lo, .int .i64 s.a.hi, .int .i64 s.b.lo, .int .i64 s.b.hi, .int .i64 s.half.lo, .int .i64 s.half.hi, .int .i64 s.peak.lo, .int .i64 s.peak.hi, .slice p n c] 35)).alloc (.cells #[.int .i64 x] 3)) #[.int .i64 y] 3 0 _ rfl
  have hr := BoxIs.start (((w.alloc (.cells #[.int .i64 s.wide, .int .i64 s.high, .int .i64 s.fall, .int .i64 s.a.lo, .int .i64 s.a.hi, .int .i64 s.b.lo, .int .i64 s.b.hi, .int .i64 s.half.lo, .int .i64 s.half.hi, .int .i64 s.peak.lo, .int .i64 s.peak.hi, .slice p n c] 35)).alloc (.cells #[.int .i64 x] 3)).alloc (.cells #[.int .i64 y] 3)) #[.int .i64 0, .int .i64 0] 29
  simp only [World.size_alloc] at hx hy hr
  refine ⟨(((Boxed1.start _ _ _).alloc _).alloc _).alloc _, ?_, ?_, hr⟩
  · exact ((((Below.refl _ _).alloc (Nat.le_refl _) _).alloc (by simp) _ : Below ((w.alloc (.cells #[.int .i64 s.wide, .int .i64 s.high, .int .i64 s.fall, .int .i64 s.a.lo, .int .i64 s.a.hi, .int .i64 s.b.lo, .int .i64 s.b.hi, .int .i64 s.half.lo, .int .i64 s.half.hi, .int .i64 s.peak.lo, .int .i64 s.peak.hi, .slice p n c] 35)).alloc (.cells #[.int .i64 x] 3)).heap.size _ _).cell (p := ⟨w.heap.size + 1, 0, none⟩) (by simp)).trans hx
  · exact (((Below.refl _ _).alloc (Nat.le_refl _) _ : Below (((w.alloc (.cells #[.int .i64 s.wide, .int .i64 s.high, .int .i64 s.fall, .int .i64 s.a.lo, .int .i64 s.a.hi, .int .i64 s.b.lo, .int .i64 s.b.hi, .int .i64 s.half.lo, .int .i64 s.half.hi, .int .i64 s.peak.lo, .int .i64 s.peak.hi, .slice p n c] 35)).alloc (.cells #[.int .i64 x] 3)).alloc (.cells #[.int .i64 y] 3)).heap.size _ _).cell (p := ⟨w.heap.size + 2, 0, none⟩) (by simp)).trans hy

set_option maxRecDepth 40000 in
set_option maxHeartbeats 4000000 in
theorem sizes_any (s : Sto) (p : Option Addr) (n c : Nat) (x y : Int) (w : World) (hcs : CrdsAt w p n s.cards) :
    Calls Try.prog 19 #[.agg #[.int .i64 s.wide, .int .i64 s.high, .int .i64 s.fall, .int .i64 s.a.lo, .int .i64 s.a.hi, .int .i64 s.b.lo, .int .i64 s.b.hi, .int .i64 s.half.lo, .int .i64 s.half.hi, .int .i64 s.peak.lo, .int .i64 s.peak.hi, .slice p n c], .int .i64 x, .int .i64 y] w fun e w' => e = .returned (.tuple #[.agg #[.int .i64 (sizesV s x y).lo, .int .i64 (sizesV s x y).hi], .int .i64 (sureE s (fineS s x y))]) ∧ Below w.heap.size w w' := by
  have hmf : ∀ (fn : Fn) (first cap : Array Value) (w : World), (Instr.makeFunc fn first cap).run Try.prog w = .ok (.func fn first cap) w := fun _ _ _ _ => rfl
  have HA := hid (fun W (hB : SzBox w s p n c x y W) => asked73_any s p n c (w.heap.size + 1) w.heap.size (w.heap.size + 2) (fineS s x y) W (hcs.below hB.b.below) (fun h0 W' hW' => fineS_any s p n c _ _ _ x y W' (hB.step hW').x (StoAt.of (hB.step hW').b.cell) (hB.step hW').y (fault_iff.1 h0)))
  clear hcs
  have HV := hid (show sizesV s x y = if sureE s (fineS s x y) = 0 then spanT s x y ⟨firstT s x y (truthL s), firstT s x y (truthL s)⟩ (truthL s) else ⟨0, 0⟩ from rfl)
  have hst := SzBox.start w s p n c x y
  obtain ⟨W0, hW0⟩ : ∃ W, (((w.alloc (.cells #[.int .i64 s.wide, .int .i64 s.high, .int .i64 s.fall, .int .i64 s.a.lo, .int .i64 s.a.hi, .int .i64 s.b.lo, .int .i64 s.b.hi, .int .i64 s.half.lo, .int .i64 s.half.hi, .int .i64 s.peak.lo, .int .i64 s.peak.hi, .slice p n c] 35)).alloc (.cells #[.int .i64 x] 3)).alloc (.cells #[.int .i64 y] 3)).alloc (.cells #[.int .i64 0, .int .i64 0] 29) = W := ⟨_, rfl⟩
  rw [hW0] at hst
  have HB0 := hid hst
  clear hst
  have e0 := (StoAt.of HB0.out.b.cell).c0
  have e1 := (StoAt.of HB0.out.b.cell).c1
  have e2 := (StoAt.of HB0.out.b.cell).c2
  have e3 := (StoAt.of HB0.out.b.cell).c3
  have e4 := (StoAt.of HB0.out.b.cell).c4
  have e5 := (StoAt.of HB0.out.b.cell).c5
  have e6 := (StoAt.of HB0.out.b.cell).c6
  have e7 := (StoAt.of HB0.out.b.cell).c7
  have e8 := (StoAt.of HB0.out.b.cell).c8
  have e9 := (StoAt.of HB0.out.b.cell).c9
  have e10 := (StoAt.of HB0.out.b.cell).c10
  have e11 := (StoAt.of HB0.out.b.cell).c11
  go_enter Try.func19, Try.ntmps19
  go_wp2_with fail
  refine (HA.out _ HB0.out).mono ?_
  rintro e w1 ⟨pw, v, rfl, hown, hb⟩
  have HB := hid (HB0.out.step hb)
  obtain ⟨p', c', rfl, hrow⟩ := hown.slice cellsT_len
  have HR := hid hrow
  clear hown hrow hb hmf hW0
  clear e0 e1 e2 e3 e4 e5 e6 e7 e8 e9 e10 e11
  by_cases hE : sureE s (fineS s x y) = 0
  · obtain ⟨ok, hfi, hne⟩ := sure_ok hE
    have HS := hid ok.small
    have HTR := hid (fun t (ht : t ∈ truthL s) => ok.smallT (mem_poss.1 (List.mem_filter.1 ht).1))
    have hlen := truth_len ok
    have hq : 0 ≤ x ∧ x ≤ 11 ∧ 0 ≤ y ∧ y ≤ 11 := by
      simp only [fineS, Bool.and_eq_true, inB_iff] at hfi
      have := ok.w12; have := ok.h12
      omega
    obtain ⟨xa, xb, ya, yb⟩ := hq
    have HSZ := hid (fun t (ht : t ∈ truthL s) W => size_any s p n c t x y W HS.out (HTR.out t ht) xa xb ya yb)
    have HVV : Hid (sizesV s x y = spanT s x y ⟨firstT s x y (truthL s), firstT s x y (truthL s)⟩ (truthL s)) := by show _ = _; rw [HV.out, if_pos hE]
    have hl : sureL s (fineS s x y) = truthL s := by rw [sureL, if_pos hE]
    rw [hl] at HR ⊢
    rw [hE]
    have HE := hid hE
    obtain ⟨L, hL⟩ : ∃ L, truthL s = L := ⟨_, rfl⟩
    rw [hL] at HR HTR hlen HVV HSZ hne ⊢
    obtain ⟨N, hN⟩ : ∃ N, L.length = N := ⟨_, rfl⟩
    rw [hN] at HR hlen ⊢
    have hN0 : 0 < N := by rw [← hN]; exact List.length_pos_iff.2 hne
    have HN := hid hN
    clear hE ok hfi hne hl HV hL hN HTR
    obtain ⟨t0, ht0, b1, o1, rfl, hlt1, hc⟩ := HR.out.at hN0
    have HF0 : Hid (firstT s x y L = sizeS s t0 x y) := by show _ = _; cases L with | nil => simp at ht0 | cons a r => simp at ht0; rw [ht0]; rfl
    have HZ0 := hid (HSZ.out t0 (List.mem_of_getElem? ht0))
    have HC0 : Hid (∀ V, Below w1.heap.size w1 V → V.cell? ⟨b1, o1, none⟩ = some (.int .i64 t0.a) ∧ V.cell? ⟨b1, o1 + 1, none⟩ = some (.int .i64 t0.b) ∧ V.cell? ⟨b1, o1 + 2, none⟩ = some (.int .i64 t0.half) ∧ V.cell? ⟨b1, o1 + 3, none⟩ = some (.int .i64 t0.peak)) := fun V hV => by
      have k0 := hc 0 _ rfl; have k1 := hc 1 _ rfl; have k2 := hc 2 _ rfl; have k3 := hc 3 _ rfl
      simp only [Nat.zero_mul, Nat.add_zero] at k0 k1 k2 k3
      have kk : ∀ (a : Addr) (v : Value), w1.cell? a = some v → V.cell? a = some v := fun a v h => (hV.cell (World.block_lt_of_cell? _ _ h)).trans h
      exact ⟨kk _ _ k0, kk _ _ k1, kk _ _ k2, kk _ _ k3⟩
    clear hc ht0
    go_wp2_with fail
    refine wp_region_held_drew (S := fun V => SzBox w s p n c x y V ∧ Below w1.heap.size w1 V) (by kernel_rfl) (⟨HB.out.step (Below.refl _ _).drew, (Below.refl _ _).drew⟩) (fun hS => ?_)
    simp only [List.size_toArray, List.length_cons, List.length_nil, Nat.reduceAdd, Array.replicate_succ, Array.replicate_zero, List.push_toArray, List.nil_append, List.cons_append]
    refine tkH (i := 0) (v := ?_) (fun V hV => ?_) ?_
    rotate_left
    · have e0 := (StoAt.of hV.1.b.cell).c0; have e1 := (StoAt.of hV.1.b.cell).c1; have e2 := (StoAt.of hV.1.b.cell).c2; have e3 := (StoAt.of hV.1.b.cell).c3; have e4 := (StoAt.of hV.1.b.cell).c4; have e5 := (StoAt.of hV.1.b.cell).c5; have e6 := (StoAt.of hV.1.b.cell).c6; have e7 := (StoAt.of hV.1.b.cell).c7; have e8 := (StoAt.of hV.1.b.cell).c8; have e9 := (StoAt.of hV.1.b.cell).c9; have e10 := (StoAt.of hV.1.b.cell).c10; have e11 := (StoAt.of hV.1.b.cell).c11; go_simp
      try with_reducible rfl
    try simp only [Act.put, List.getElem_toArray, List.getElem_cons_zero, List.setIfInBounds_toArray, List.set_cons_zero, List.set_cons_succ]
    refine tkH (i := 1) (v := ?_) (fun V hV => ?_) ?_
    rotate_left
    · go_simp
      try with_reducible rfl
    try simp only [Act.put, List.getElem_toArray, List.getElem_cons_zero, List.getElem_cons_succ, List.setIfInBounds_toArray, List.set_cons_zero, List.set_cons_succ]
    refine tkH (i := 2) (v := ?_) (fun V hV => ?_) ?_
    rotate_left
    · go_simp
      try with_reducible rfl
    try simp only [Act.put, List.getElem_toArray, List.getElem_cons_zero, List.getElem_cons_succ, List.setIfInBounds_toArray, List.set_cons_zero, List.set_cons_succ]
    refine tkH (i := 3) (v := ?_) (fun V hV => ?_) ?_
    rotate_left
    · have ⟨d0, d1, d2, d3⟩ := HC0.out V hV.2; go_simp
      try with_reducible rfl
    try simp only [Act.put, List.getElem_toArray, List.getElem_cons_zero, List.getElem_cons_succ, List.setIfInBounds_toArray, List.set_cons_zero, List.set_cons_succ]
    refine tkH (i := 4) (v := ?_) (fun V hV => ?_) ?_
    rotate_left
    · have e0 := hV.1.x; go_simp
      try with_reducible rfl
    try simp only [Act.put, List.getElem_toArray, List.getElem_cons_zero, List.getElem_cons_succ, List.setIfInBounds_toArray, List.set_cons_zero, List.set_cons_succ]
    refine tkH (i := 5) (v := ?_) (fun V hV => ?_) ?_
    rotate_left
    · have e0 := hV.1.y; go_simp
      try with_reducible rfl
    try simp only [Act.put, List.getElem_toArray, List.getElem_cons_zero, List.getElem_cons_succ, List.setIfInBounds_toArray, List.set_cons_zero, List.set_cons_succ]
    refine wpAnyH_ready (rs := [6]) (by kernel_rfl) (by simp) ?_
    refine AllReadyH.cons (o := _) rfl (fun K hK => ?_) AllReadyH.nil
    go_simp
    (with_reducible refine (HZ0.out _).mono ?_)
    rintro e w2 ⟨rfl, hb⟩
    refine hK.out _ _ (⟨hS.1.step hb, hS.2.trans (hb.mono hS.2.size)⟩) (fun hS => ?_)
    clear hK K
    try simp only [List.setIfInBounds_toArray, List.set_cons_zero, List.set_cons_succ]
    refine tkH (i := 7) (v := ?_) (fun V hV => ?_) ?_
    rotate_left
    · go_simp
      try with_reducible rfl
    try simp only [Act.put, List.getElem_toArray, List.getElem_cons_zero, List.getElem_cons_succ, List.setIfInBounds_toArray, List.set_cons_zero, List.set_cons_succ]
    refine wpAnyH_done (by kernel_rfl) ?_ _
    have HS2 := hid hS
    clear hS
    have hz2 : w.heap.size + 4 ≤ w2.heap.size := HS2.out.1.r.1
    have HB12 := hid HS2.out.2.size
    go_wp2_with fail
    go_loopw [38] (fun i wr => ∃ k : Nat, k ≤ N ∧ i = .int .i64 k ∧ BoxIs w2.heap.size #[.int .i64 (spanT s x y ⟨firstT s x y L, firstT s x y L⟩ (L.take k)).lo, .int .i64 (spanT s x y ⟨firstT s x y L, firstT s x y L⟩ (L.take k)).hi] wr ∧ SzBox w s p n c x y wr ∧ Below w1.heap.size w1 wr) (fun i _ => N - (intOf i).toNat)
    case atStart => exact ⟨0, by omega, rfl, by rw [List.take_zero]; show BoxIs _ #[.int .i64 (firstT s x y L), .int .i64 (firstT s x y L)] _; rw [HF0.out]; exact BoxIs.start _ _ _, HS2.out.1.step ((Below.refl _ _).alloc (Nat.le_refl _) _), HS2.out.2.alloc HS2.out.2.size _⟩
    case round =>
      obtain ⟨k, hk, rfl, hx, hz, hb⟩ := hrel
      by_cases hlt : k < N
      · obtain ⟨t, ht, b1', o1', e1, hlt1', hc⟩ := (HR.out.below hb).at hlt
        cases e1
        have c0 : wr.cell? ⟨b1, o1 + k * 4, none⟩ = some (.int .i64 t.a) := hc 0 _ rfl
        have c1 : wr.cell? ⟨b1, o1 + k * 4 + 1, none⟩ = some (.int .i64 t.b) := hc 1 _ rfl
        have c2 : wr.cell? ⟨b1, o1 + k * 4 + 2, none⟩ = some (.int .i64 t.half) := hc 2 _ rfl
        have c3 : wr.cell? ⟨b1, o1 + k * 4 + 3, none⟩ = some (.int .i64 t.peak) := hc 3 _ rfl
        have HZT := hid (HSZ.out t (List.mem_of_getElem? ht))
        have HSN := hid (spanT_snoc (s := s) (x := x) (y := y) (r := ⟨firstT s x y L, firstT s x y L⟩) ht)
        obtain ⟨r, hr⟩ : ∃ r, spanT s x y ⟨firstT s x y L, firstT s x y L⟩ (L.take k) = r := ⟨_, rfl⟩
        rw [hr] at hx HSN
        clear hr hc ht
        obtain ⟨W5, hW5⟩ : ∃ V, wr.alloc (.cells #[.int .i64 t.a, .int .i64 t.b, .int .i64 t.half, .int .i64 t.peak] 94) = V := ⟨_, rfl⟩
        have hba : Below wr.heap.size wr W5 := by rw [← hW5]; exact (Below.refl _ _).alloc (Nat.le_refl _) _
        have HT5 : Hid (TruAt W5 wr.heap.size t) := by show TruAt _ _ _; rw [← hW5]; exact TruAt.of (cell_box wr _ 94)
        have HX5 := hid (hx.below hba)
        have HS5 := hid (hz.step hba)
        have HB5 : Hid (Below w1.heap.size w1 W5) := hid (hb.trans (hba.mono hb.size))
        have hbw := hx.1
        clear hx hz hb hba
        go_upto_region 9 with fail
        clear hW5 c0 c1 c2 c3
        refine wp_region_held_drew (S := fun V => SzBox w s p n c x y V ∧ TruAt V wr.heap.size t ∧ Below w1.heap.size w1 V) (by kernel_rfl) (⟨HS5.out.step (Below.refl _ _).drew, HT5.out.below (Below.refl _ _).drew, HB5.out.trans ((Below.refl _ _).drew.mono HB5.out.size)⟩) (fun hS => ?_)
        simp only [List.size_toArray, List.length_cons, List.length_nil, Nat.reduceAdd, Array.replicate_succ, Array.replicate_zero, List.push_toArray, List.nil_append, List.cons_append]
        refine tkH (i := 1) (v := ?_) (fun V hV => ?_) ?_
        rotate_left
        · have e0 := (StoAt.of hV.1.b.cell).c0; have e1 := (StoAt.of hV.1.b.cell).c1; have e2 := (StoAt.of hV.1.b.cell).c2; have e3 := (StoAt.of hV.1.b.cell).c3; have e4 := (StoAt.of hV.1.b.cell).c4; have e5 := (StoAt.of hV.1.b.cell).c5; have e6 := (StoAt.of hV.1.b.cell).c6; have e7 := (StoAt.of hV.1.b.cell).c7; have e8 := (StoAt.of hV.1.b.cell).c8; have e9 := (StoAt.of hV.1.b.cell).c9; have e10 := (StoAt.of hV.1.b.cell).c10; have e11 := (StoAt.of hV.1.b.cell).c11; go_simp
          try with_reducible rfl
        try simp only [Act.put, List.getElem_toArray, List.getElem_cons_zero, List.getElem_cons_succ, List.setIfInBounds_toArray, List.set_cons_zero, List.set_cons_succ]
        refine tkH (i := 2) (v := ?_) (fun V hV => ?_) ?_
        rotate_left
        · have f0 := hV.2.1.c0; have f1 := hV.2.1.c1; have f2 := hV.2.1.c2; have f3 := hV.2.1.c3; go_simp
          try with_reducible rfl
        try simp only [Act.put, List.getElem_toArray, List.getElem_cons_zero, List.getElem_cons_succ, List.setIfInBounds_toArray, List.set_cons_zero, List.set_cons_succ]
        refine tkH (i := 3) (v := ?_) (fun V hV => ?_) ?_
        rotate_left
        · have e0 := hV.1.x; go_simp
          try with_reducible rfl
        try simp only [Act.put, List.getElem_toArray, List.getElem_cons_zero, List.getElem_cons_succ, List.setIfInBounds_toArray, List.set_cons_zero, List.set_cons_succ]
        refine tkH (i := 4) (v := ?_) (fun V hV => ?_) ?_
        rotate_left
        · have e0 := hV.1.y; go_simp
          try with_reducible rfl
        try simp only [Act.put, List.getElem_toArray, List.getElem_cons_zero, List.getElem_cons_succ, List.setIfInBounds_toArray, List.set_cons_zero, List.set_cons_succ]
        refine wpAnyH_ready (rs := [0, 5]) (by kernel_rfl) (by simp) ?_
        refine AllReadyH.cons (o := _) rfl (fun K hK => ?_) ?_
        · skip
          have b0 := (HX5.out.2 0 (.int .i64 r.lo) rfl).1; have b9 := (HX5.out.2 1 (.int .i64 r.hi) rfl).1
          go_simp
          refine hK.out _ _ (hS) (fun hS => ?_)
          clear hK K
          try simp only [List.setIfInBounds_toArray, List.set_cons_zero]
          refine wpAnyH_ready (rs := [5]) (by kernel_rfl) (by simp) ?_
          refine AllReadyH.cons (o := _) rfl (fun K hK => ?_) AllReadyH.nil
          go_simp
          (with_reducible refine (HZT.out _).mono ?_)
          rintro e w6 ⟨rfl, hb⟩
          have HX6 := hid (HX5.out.below ((Below.refl _ _).drew.trans hb))
          refine hK.out _ _ (⟨hS.1.step hb, hS.2.1.below hb, hS.2.2.trans (hb.mono hS.2.2.size)⟩) (fun hS => ?_)
          clear hK K
          try simp only [List.setIfInBounds_toArray, List.set_cons_zero, List.set_cons_succ]
          refine wpAnyH_ready (rs := [6]) (by kernel_rfl) (by simp) ?_
          refine AllReadyH.cons (o := _) rfl (fun K hK => ?_) AllReadyH.nil
          go_simp
          (with_reducible refine (wider_any r _ _).mono ?_)
          rintro e w7 ⟨rfl, hb⟩
          have HX7 := hid (HX6.out.below hb)
          refine hK.out _ _ (⟨hS.1.step hb, hS.2.1.below hb, hS.2.2.trans (hb.mono hS.2.2.size)⟩) (fun hS => ?_)
          clear hK K
          try simp only [List.setIfInBounds_toArray, List.set_cons_zero, List.set_cons_succ]
          refine wpAnyH_ready (rs := [7]) (by kernel_rfl) (by simp) ?_
          refine AllReadyH.cons (o := _) rfl (fun K hK => ?_) AllReadyH.nil
          have k0 := (HX7.out.2 0 (.int .i64 r.lo) rfl).1; have k1 := (HX7.out.2 1 (.int .i64 r.hi) rfl).1; have f0 := (HX7.out.2 0 (.int .i64 r.lo) rfl).2; have f1 := (HX7.out.2 1 (.int .i64 r.hi) rfl).2
          have HX8 := hid ((HX7.out.put (j := 0) (.int .i64 (widerR r (sizeS s t x y)).lo)).put (j := 1) (.int .i64 (widerR r (sizeS s t x y)).hi))
          go_simp
          clear k0 k1 f0 f1
          refine hK.out _ _ (⟨(hS.1.put hz2 _).put hz2 _, (hS.2.1.kept (Below.heap_setCell _ _ _ _ (by show wr.heap.size ≠ w2.heap.size; omega))).kept (Below.heap_setCell _ _ _ _ (by show wr.heap.size ≠ w2.heap.size; omega)), (hS.2.2.setCell (p := ⟨w2.heap.size, 0, none⟩) HB12.out _).setCell (p := ⟨w2.heap.size, 1, none⟩) HB12.out _⟩) (fun hS => ?_)
          clear hK K
          try simp only [List.setIfInBounds_toArray, List.set_cons_zero, List.set_cons_succ]
          refine wpAnyH_done (by kernel_rfl) ?_ _
          have HS9 := hid hS
          clear hS
          go_wp2_with fail
          go_roundw
          case rel => exact ⟨k + 1, by omega, by go_num, by rw [HSN.out]; exact HX8.out, HS9.out.1, HS9.out.2.2⟩
          case measure => simp [intOf]; omega
        refine AllReadyH.cons (o := _) rfl (fun K hK => ?_) AllReadyH.nil
        go_simp
        (with_reducible refine (HZT.out _).mono ?_)
        rintro e w6 ⟨rfl, hb⟩
        have HX6 := hid (HX5.out.below ((Below.refl _ _).drew.trans hb))
        refine hK.out _ _ (⟨hS.1.step hb, hS.2.1.below hb, hS.2.2.trans (hb.mono hS.2.2.size)⟩) (fun hS => ?_)
        clear hK K
        try simp only [List.setIfInBounds_toArray, List.set_cons_zero, List.set_cons_succ]
        refine wpAnyH_ready (rs := [0]) (by kernel_rfl) (by simp) ?_
        refine AllReadyH.cons (o := _) rfl (fun K hK => ?_) AllReadyH.nil
        have b0 := (HX6.out.2 0 (.int .i64 r.lo) rfl).1; have b9 := (HX6.out.2 1 (.int .i64 r.hi) rfl).1
        go_simp
        refine hK.out _ _ (hS) (fun hS => ?_)
        clear hK K
        try simp only [List.setIfInBounds_toArray, List.set_cons_zero]
        refine wpAnyH_ready (rs := [6]) (by kernel_rfl) (by simp) ?_
        refine AllReadyH.cons (o := _) rfl (fun K hK => ?_) AllReadyH.nil
        go_simp
        (with_reducible refine (wider_any r _ _).mono ?_)
        rintro e w7 ⟨rfl, hb⟩
        have HX7 := hid (HX6.out.below hb)
        refine hK.out _ _ (⟨hS.1.step hb, hS.2.1.below hb, hS.2.2.trans (hb.mono hS.2.2.size)⟩) (fun hS => ?_)
        clear hK K
        try simp only [List.setIfInBounds_toArray, List.set_cons_zero, List.set_cons_succ]
        refine wpAnyH_ready (rs := [7]) (by kernel_rfl) (by simp) ?_
        refine AllReadyH.cons (o := _) rfl (fun K hK => ?_) AllReadyH.nil
        have k0 := (HX7.out.2 0 (.int .i64 r.lo) rfl).1; have k1 := (HX7.out.2 1 (.int .i64 r.hi) rfl).1; have f0 := (HX7.out.2 0 (.int .i64 r.lo) rfl).2; have f1 := (HX7.out.2 1 (.int .i64 r.hi) rfl).2
        have HX8 := hid ((HX7.out.put (j := 0) (.int .i64 (widerR r (sizeS s t x y)).lo)).put (j := 1) (.int .i64 (widerR r (sizeS s t x y)).hi))
        go_simp
        clear k0 k1 f0 f1
        refine hK.out _ _ (⟨(hS.1.put hz2 _).put hz2 _, (hS.2.1.kept (Below.heap_setCell _ _ _ _ (by show wr.heap.size ≠ w2.heap.size; omega))).kept (Below.heap_setCell _ _ _ _ (by show wr.heap.size ≠ w2.heap.size; omega)), (hS.2.2.setCell (p := ⟨w2.heap.size, 0, none⟩) HB12.out _).setCell (p := ⟨w2.heap.size, 1, none⟩) HB12.out _⟩) (fun hS => ?_)
        clear hK K
        try simp only [List.setIfInBounds_toArray, List.set_cons_zero, List.set_cons_succ]
        refine wpAnyH_done (by kernel_rfl) ?_ _
        have HS9 := hid hS
        clear hS
        go_wp2_with fail
        go_roundw
        case rel => exact ⟨k + 1, by omega, by go_num, by rw [HSN.out]; exact HX8.out, HS9.out.1, HS9.out.2.2⟩
        case measure => simp [intOf]; omega
      · have hkN : k = N := by omega
        subst hkN
        have hL9 : L.take k = L := by rw [← HN.out]; exact List.take_length
        rw [hL9, ← HVV.out] at hx
        clear hL9
        have k0 := (hx.2 0 (.int .i64 (sizesV s x y).lo) rfl).1; have k1 := (hx.2 1 (.int .i64 (sizesV s x y).hi) rfl).1
        have r0 := (hz.r.2 0 (.int .i64 0) rfl).2; have r1 := (hz.r.2 1 (.int .i64 0) rfl).2; have m0 := (hz.r.2 0 (.int .i64 0) rfl).1; have m1 := (hz.r.2 1 (.int .i64 0) rfl).1
        have HRR := hid ((hz.r.put (j := 0) (.int .i64 (sizesV s x y).lo)).put (j := 1) (.int .i64 (sizesV s x y).hi))
        have HZ9 := hid hz
        clear hx hz hb
        go_wp2_with fail
        have y0 := (HRR.out.2 0 (.int .i64 (sizesV s x y).lo) rfl).1; have y1 := (HRR.out.2 1 (.int .i64 (sizesV s x y).hi) rfl).1
        refine bodyPost_ret (v := .tuple #[.agg #[.int .i64 (sizesV s x y).lo, .int .i64 (sizesV s x y).hi], .int .i64 0]) (by simp [results, Try.f19, go_sem, y0, y1]) rfl ?_
        exact ⟨by rw [HE.out], (HZ9.out.b.below.setCell (p := ⟨w.heap.size + 3, 0, none⟩) (by show w.heap.size ≤ w.heap.size + 3; omega) _).setCell (p := ⟨w.heap.size + 3, 1, none⟩) (by show w.heap.size ≤ w.heap.size + 3; omega) _⟩
  · have hE' : (sureE s (fineS s x y) != 0) = true := by simp [hE]
    have HF : Hid (sizesV s x y = ⟨0, 0⟩) := by show _ = _; rw [HV.out, if_neg hE]
    have HN := hid hE
    clear hE
    have k0 := (HB.out.r.2 0 (.int .i64 0) rfl).1; have k1 := (HB.out.r.2 1 (.int .i64 0) rfl).1; have f0 := (HB.out.r.2 0 (.int .i64 0) rfl).2; have f1 := (HB.out.r.2 1 (.int .i64 0) rfl).2
    have HRR := hid ((HB.out.r.put (j := 0) (.int .i64 0)).put (j := 1) (.int .i64 0))
    go_wp2_with fail
    have y0 := (HRR.out.2 0 (.int .i64 0) rfl).1; have y1 := (HRR.out.2 1 (.int .i64 0) rfl).1
    refine bodyPost_ret (v := .tuple #[.agg #[.int .i64 0, .int .i64 0], .int .i64 (sureE s (fineS s x y))]) (by simp [results, Try.f19, go_sem, y0, y1]) rfl ?_
    exact ⟨by rw [HF.out], (HB.out.b.below.setCell (p := ⟨w.heap.size + 3, 0, none⟩) (by show w.heap.size ≤ w.heap.size + 3; omega) _).setCell (p := ⟨w.heap.size + 3, 1, none⟩) (by show w.heap.size ≤ w.heap.size + 3; omega) _⟩
end Go.Proofs.Ytfnefkenheglhaa
