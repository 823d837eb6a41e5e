/- StormWider: with a wider range of the storm, or of a card, no range is narrower, and no more cards have to be left out. For each storm, each two bytes and each word. -/
import Derived.Test.YtfnefkenheglhaaPlMW
import Derived.Test.YtfnefkenheglhaaLawC
import Derived.Test.YtfnefkenheglhaaLawAwake
import Derived.Deep.CutBlock
namespace Go.Proofs.Ytfnefkenheglhaa
open Go.RowKit

theorem wid_a {s : Sto} {r : Rng} (h1 : r.lo ≤ s.a.lo) (h2 : s.a.hi ≤ r.hi) : Wid s ⟨s.wide, s.high, s.fall, r, s.b, s.half, s.peak, s.cards⟩ :=
  ⟨rfl, rfl, rfl, fun t ht => by
    simp only [truB, inB, Bool.and_eq_true, decide_eq_true_eq] at ht ⊢
    exact ⟨⟨by omega, by omega⟩, ht.2⟩, rfl, fun _ c hc => ⟨c, hc, rfl, rfl, fun _ h => h⟩⟩
theorem wid_half {s : Sto} {r : Rng} (h1 : r.lo ≤ s.half.lo) (h2 : s.half.hi ≤ r.hi) : Wid s ⟨s.wide, s.high, s.fall, s.a, s.b, r, s.peak, s.cards⟩ :=
  ⟨rfl, rfl, rfl, fun t ht => by
    simp only [truB, inB, Bool.and_eq_true, decide_eq_true_eq] at ht ⊢
    exact ⟨ht.1, ht.2.1, ⟨by omega, by omega⟩, ht.2.2.2⟩, rfl, fun _ c hc => ⟨c, hc, rfl, rfl, fun _ h => h⟩⟩
theorem wid_peak {s : Sto} {r : Rng} (h1 : r.lo ≤ s.peak.lo) (h2 : s.peak.hi ≤ r.hi) : Wid s ⟨s.wide, s.high, s.fall, s.a, s.b, s.half, r, s.cards⟩ :=
  ⟨rfl, rfl, rfl, fun t ht => by
    simp only [truB, inB, Bool.and_eq_true, decide_eq_true_eq] at ht ⊢
    exact ⟨ht.1, ht.2.1, ht.2.2.1, by omega, by omega⟩, rfl, fun _ c hc => ⟨c, hc, rfl, rfl, fun _ h => h⟩⟩
theorem wid_card {s : Sto} {j : Nat} {c d : Crd} (hc : s.cards[j]? = some c) (h1 : d.hail = c.hail) (h2 : d.size = c.size) (hx1 : d.x.lo ≤ c.x.lo) (hx2 : c.x.hi ≤ d.x.hi) (hy1 : d.y.lo ≤ c.y.lo) (hy2 : c.y.hi ≤ d.y.hi) :
    Wid s ⟨s.wide, s.high, s.fall, s.a, s.b, s.half, s.peak, s.cards.set j d⟩ := by
  refine ⟨rfl, rfl, rfl, fun _ ht => ht, by simp, fun i e he => ?_⟩
  by_cases hij : j = i
  · subst hij
    rw [hc] at he
    cases he
    have hj := (List.getElem?_eq_some_iff.1 hc).1
    refine ⟨d, by simp [hj], h1, h2, fun q hq => ?_⟩
    rw [mem_places] at hq ⊢
    omega
  · exact ⟨e, by show (s.cards.set j d)[i]? = _; rw [List.getElem?_set_ne hij]; exact he, rfl, rfl, fun _ h => h⟩
theorem wid_same (s : Sto) : Wid s s := ⟨rfl, rfl, rfl, fun _ h => h, rfl, fun _ c hc => ⟨c, hc, rfl, rfl, fun _ h => h⟩⟩

theorem wid_ne {s x : Sto} (h : Wid s x) (hs : truthL s ≠ []) : truthL x ≠ [] := by
  obtain ⟨t, ht⟩ := List.exists_mem_of_ne_nil _ hs
  exact List.ne_nil_of_mem (wid_mem h ht)
theorem wid_narrow {s x : Sto} (h : Wid s x) (hs : truthL s ≠ []) : narrowB (bndS s) (bndS x) = true := by
  have hx := wid_ne h hs
  have hb : ∀ t ∈ truthL s, t ∈ truthL x := fun t ht => wid_mem h ht
  unfold narrowB
  rw [Bool.and_eq_true, Bool.and_eq_true, Bool.and_eq_true]
  exact ⟨(bound_span hs).inside (bound_span hx) hb, (bound_span hs).inside (bound_span hx) hb, (bound_span hs).inside (bound_span hx) hb, (bound_span hs).inside (bound_span hx) hb⟩
theorem verd_geo {s x : Sto} (h : ∀ t a b, hitB x t a b = hitB s t a b) (L : List Tru) (a b : Rng) : verdT x L a b = verdT s L a b := by
  have e : hitsB x = hitsB s := by
    funext t a b i
    unfold hitsB
    congr 1
    funext q
    rw [h]
  unfold verdT
  rw [e]
theorem wid_verd {s x : Sto} (h : Wid s x) {a b : Rng} (hs : truthL s ≠ []) (ha : a.lo ≤ a.hi) (hb : b.lo ≤ b.hi) : verdT x (truthL x) a b = 3 ∨ verdT s (truthL s) a b = verdT x (truthL x) a b := by
  rw [verd_geo (wid_hit h)]
  exact verd_less (s := s) hs (places_ne ha hb) (fun t ht => wid_mem h ht)
theorem wid_rect {s x : Sto} (h : Wid s x) (a b : Rng) : rectB x a b = rectB s a b := by unfold rectB; rw [h.w, h.h]

/-- append(out, l...), l cards that may be none. -/
theorem wpList_append_crds {ops : Array Oper} {rest : List Oper} {o : Oper} {a : Act} {w : World} {Q : Exit → Act → World → Prop} (hgd : o.guard = none) (s x : Operand)
    (ho : o.op = .call { callee := .builtin .append, args := #[s, x], argTypes := #[24, 24] })
    (base : Nat) (v : Value) (l : List Crd) (q : Option Addr) (m c : Nat) (y : List Crd) (hown : OwnRows cellsK 7 61 w base v l) (hs : a.eval s = v) (hx : a.eval x = .slice q m c) (hy : CrdsAt w q m y)
    (hlen : l.length ≤ 2000000) (hm : m ≤ 2000000) (hbase : base ≤ w.heap.size)
    (h : ∀ v' w', OwnRows cellsK 7 61 w' base v' (l ++ y) → Below base w w' → (∀ k, k < w.heap.size → some k ≠ v.ownBlock → w'.heap[k]? = w.heap[k]?) → wpList Try.prog ops Q rest (a.put o.dst v') w') :
    wpList Try.prog ops Q (o :: rest) a w := by
  refine wpList_plain hgd fun K hK => ?_
  have h1 := step_append_crds (ops := ops) (K := K) (Q := Q) (E := True) hgd s x ho base v l q m c y hown hs hx hy hlen hm hbase (fun v' w' a1 a2 a3 => hK _ _ (h v' w' a1 a2 a3))
  rwa [if_pos (by simp [Region.wanted, hgd])] at h1

/-- A card of a slice is written anew. -/
theorem crds_set {W : World} {g o m : Nat} {l : List Crd} (h : CrdsAt W (some ⟨g, o, none⟩) m l) {j : Nat} {c d : Crd} (hc : l[j]? = some c) (h1 : d.hail = c.hail) (h2 : d.size = c.size) :
    CrdsAt ((((W.setCell ⟨g, o + j * 7, none⟩ (.int .i64 d.x.lo)).setCell ⟨g, o + j * 7 + 1, none⟩ (.int .i64 d.x.hi)).setCell ⟨g, o + j * 7 + 2, none⟩ (.int .i64 d.y.lo)).setCell ⟨g, o + j * 7 + 3, none⟩ (.int .i64 d.y.hi)) (some ⟨g, o, none⟩) m (l.set j d) := by
  have ne : ∀ (V : World) (x x' : Nat) (v : Value), x ≠ x' → (V.setCell ⟨g, x', none⟩ v).cell? ⟨g, x, none⟩ = V.cell? ⟨g, x, none⟩ := fun V x x' v ho => World.cell?_setCell_other _ _ _ _ (by intro e; injection e with _ e2; exact ho (by first | exact e2 | exact e2.symm))
  have same : ∀ (V : World) (x : Nat) (v : Value), (V.cell? ⟨g, x, none⟩).isSome = true → (V.setCell ⟨g, x, none⟩ v).cell? ⟨g, x, none⟩ = some v := fun V x v ho => World.cell?_setCell_same' _ _ _ ho
  refine ⟨by simp [h.1], fun i k hk => ?_⟩
  by_cases hij : j = i
  · subst hij
    have hj := (List.getElem?_eq_some_iff.1 hc).1
    have hk' : k = d := by simp [hj] at hk; exact hk.symm
    subst hk'
    obtain ⟨b, off, e, hlt, c0, c1, c2, c3, c4, c5, c6⟩ := h.2 j c hc
    cases e
    refine ⟨g, o, rfl, by simpa [World.setCell] using hlt, ?_, ?_, ?_, ?_, ?_, ?_, ?_⟩
    · rw [ne _ _ _ _ (by omega), ne _ _ _ _ (by omega), ne _ _ _ _ (by omega)]; exact same _ _ _ (by rw [c0]; rfl)
    · rw [ne _ _ _ _ (by omega), ne _ _ _ _ (by omega)]; exact same _ _ _ (by rw [ne _ _ _ _ (by omega), c1]; rfl)
    · rw [ne _ _ _ _ (by omega)]; exact same _ _ _ (by rw [ne _ _ _ _ (by omega), ne _ _ _ _ (by omega), c2]; rfl)
    · exact same _ _ _ (by rw [ne _ _ _ _ (by omega), ne _ _ _ _ (by omega), ne _ _ _ _ (by omega), c3]; rfl)
    · rw [ne _ _ _ _ (by omega), ne _ _ _ _ (by omega), ne _ _ _ _ (by omega), ne _ _ _ _ (by omega), h1]; exact c4
    · rw [ne _ _ _ _ (by omega), ne _ _ _ _ (by omega), ne _ _ _ _ (by omega), ne _ _ _ _ (by omega), h2]; exact c5
    · rw [ne _ _ _ _ (by omega), ne _ _ _ _ (by omega), ne _ _ _ _ (by omega), ne _ _ _ _ (by omega), h2]; exact c6
  · rw [List.getElem?_set_ne hij] at hk
    obtain ⟨b, off, e, hlt, c0, c1, c2, c3, c4, c5, c6⟩ := h.2 i k hk
    cases e
    refine ⟨g, o, rfl, by simpa [World.setCell] using hlt, ?_, ?_, ?_, ?_, ?_, ?_, ?_⟩
    all_goals rw [ne _ _ _ _ (by omega), ne _ _ _ _ (by omega), ne _ _ _ _ (by omega), ne _ _ _ _ (by omega)]
    · exact c0
    · exact c1
    · exact c2
    · exact c3
    · exact c4
    · exact c5
    · exact c6
theorem own_fz {W : World} {base : Nat} {g o m d : Nat} {l : List Crd} (h : OwnRows cellsK 7 61 W base (.slice (some ⟨g, o, none⟩) m d) l) (k : Nat) : W.frozen? ⟨g, k, none⟩ = false := by
  rcases h.2 with ⟨h0, _⟩ | ⟨g', cap, cur, hv, hg, hh, _⟩
  · cases h0
  · cases hv
    simp only [World.frozen?]
    rw [hh]
    rfl

theorem u8_small {c : Int} (h0 : 0 ≤ c) (h1 : c ≤ 3) : IntKind.u8.wrap c = c := by
  have : c = 0 ∨ c = 1 ∨ c = 2 ∨ c = 3 := by omega
  rcases this with rfl | rfl | rfl | rfl <;> rfl

set_option maxRecDepth 40000 in
set_option maxHeartbeats 16000000 in
theorem stormWider_any (s : Sto) (p : Option Addr) (n c : Nat) (wh by_ wv : Int) (w : World) (hcs : CrdsAt w p n s.cards) (hwh : 0 ≤ wh ∧ wh ≤ 255) (hby : 0 ≤ by_ ∧ by_ ≤ 255) (hwv : 0 ≤ wv ∧ wv ≤ 65535) :
    Calls Try.prog 6 #[.agg #[.int .i64 s.wide, .int .i64 s.high, .int .i64 s.fall, .int .i64 s.a.lo, .int .i64 s.a.hi, .int .i64 s.b.lo, .int .i64 s.b.hi, .int .i64 s.half.lo, .int .i64 s.half.hi, .int .i64 s.peak.lo, .int .i64 s.peak.hi, .slice p n c], .int .u8 wh, .int .u8 by_, .int .u16 wv] w fun e w' => e = .returned (.bool true) ∧ Below w.heap.size w w' := by
  have HC := hid hcs
  have HRD := hid (fun W (hb : Below w.heap.size w W) => ready_any s p n c W (hcs.below hb))
  have HWV := hid hwv; have HWH := hid hwh; have HBY := hid hby
  clear hcs hwv hwh hby
  have H0 : Hid (Boxed1 w #[.int .i64 s.wide, .int .i64 s.high, .int .i64 s.fall, .int .i64 s.a.lo, .int .i64 s.a.hi, .int .i64 s.b.lo, .int .i64 s.b.hi, .int .i64 s.half.lo, .int .i64 s.half.hi, .int .i64 s.peak.lo, .int .i64 s.peak.hi, .slice p n c] 26 (w.alloc (.cells #[.int .i64 s.wide, .int .i64 s.high, .int .i64 s.fall, .int .i64 s.a.lo, .int .i64 s.a.hi, .int .i64 s.b.lo, .int .i64 s.b.hi, .int .i64 s.half.lo, .int .i64 s.half.hi, .int .i64 s.peak.lo, .int .i64 s.peak.hi, .slice p n c] 26))) := Boxed1.start _ _ _
  have hd1 := Int.emod_nonneg by_ (show (2 : Int) ≠ 0 by decide); have hd2 := Int.emod_lt_of_pos by_ (show (0 : Int) < 2 by decide); have hd3 := Int.emod_nonneg (by_ / 2) (show (2 : Int) ≠ 0 by decide); have hd4 := Int.emod_lt_of_pos (by_ / 2) (show (0 : Int) < 2 by decide); have hd5 := Int.emod_nonneg wh (show (4 : Int) ≠ 0 by decide); have hd6 := Int.emod_lt_of_pos wh (show (0 : Int) < 4 by decide)
  obtain ⟨lw, hlw⟩ : ∃ v, by_ % 2 = v := ⟨_, rfl⟩
  obtain ⟨hw, hhw⟩ : ∃ v, by_ / 2 % 2 = v := ⟨_, rfl⟩
  obtain ⟨cs, hcs⟩ : ∃ v, wh % 4 = v := ⟨_, rfl⟩
  rw [hlw] at hd1 hd2
  rw [hhw] at hd3 hd4
  rw [hcs] at hd5 hd6
  have HDL : Hid (0 ≤ lw ∧ lw ≤ 1 ∧ 0 ≤ hw ∧ hw ≤ 1) := hid (by omega)
  have HQ : Hid (by_.tmod 2 = lw ∧ by_.tdiv 2 = by_ / 2 ∧ (by_ / 2).tmod 2 = hw ∧ wh.tmod 4 = cs ∧ wh.tdiv 4 = wh / 4) := hid ⟨by rw [Int.tmod_eq_emod_of_nonneg HBY.out.1, hlw], Int.tdiv_eq_ediv_of_nonneg HBY.out.1, by rw [Int.tmod_eq_emod_of_nonneg (by have := HBY.out; omega), hhw], by rw [Int.tmod_eq_emod_of_nonneg HWH.out.1, hcs], Int.tdiv_eq_ediv_of_nonneg HWH.out.1⟩
  have HQW : Hid (IntKind.i64.wrap by_ = by_ ∧ IntKind.i64.wrap lw = lw ∧ IntKind.i64.wrap (by_ / 2) = by_ / 2 ∧ IntKind.i64.wrap hw = hw ∧ IntKind.u8.wrap cs = cs ∧ IntKind.i64.wrap wh = wh) := hid ⟨IntWalk.i64_in _ (by have := HBY.out; omega), IntWalk.i64_in _ (by omega), IntWalk.i64_in _ (by have := HBY.out; omega), IntWalk.i64_in _ (by omega), u8_small (by omega) (by omega), IntWalk.i64_in _ (by have := HWH.out; omega)⟩
  have HCS : Hid (cs = 0 ∨ cs = 1 ∨ cs = 2 ∨ cs = 3) := hid (by omega)
  clear hlw hhw hcs hd1 hd2 hd3 hd4 hd5 hd6
  go_enter Try.func6, Try.ntmps6
  go_wp2_with fail
  (with_reducible refine (HRD.out _ ?_).mono ?_)
  · exact H0.out.below
  rintro e w1 ⟨rfl, hb⟩
  have H1 := hid (H0.out.step hb)
  clear hb
  cases hrd : readyB s
  · clear hrd
    go_wp2_with fail
    refine (awake_any _).mono ?_
    rintro e w99 ⟨rfl, hb⟩
    go_wp2_with fail
    go_ret
    exact ⟨rfl, H1.out.below.trans (hb.mono H1.out.below.size)⟩
  · have HOK := hid (ready_iff.1 hrd).1
    have hn6 : n ≤ 6 := by have := HC.out.1; have := HOK.out.n6; omega
    have HN9 : Hid (n ≤ 1000) := hid (by omega)
    have HRC := hid (box_in HOK.out HWV.out.1)
    clear hrd
    have q1 := HOK.out.w2; have q2 := HOK.out.w12; have q3 := HOK.out.h1; have q4 := HOK.out.h12
    have e0 := (StoAt.of H1.out.cell).c0; have e1 := (StoAt.of H1.out.cell).c1; have e2 := (StoAt.of H1.out.cell).c2; have e3 := (StoAt.of H1.out.cell).c3; have e4 := (StoAt.of H1.out.cell).c4; have e5 := (StoAt.of H1.out.cell).c5; have e6 := (StoAt.of H1.out.cell).c6; have e7 := (StoAt.of H1.out.cell).c7; have e8 := (StoAt.of H1.out.cell).c8; have e9 := (StoAt.of H1.out.cell).c9; have e10 := (StoAt.of H1.out.cell).c10; have e11 := (StoAt.of H1.out.cell).c11
    obtain ⟨w2, hw2⟩ : ∃ V, (w1.alloc (.cells #[.int .i64 s.wide, .int .i64 s.high, .int .i64 s.fall, .int .i64 s.a.lo, .int .i64 s.a.hi, .int .i64 s.b.lo, .int .i64 s.b.hi, .int .i64 s.half.lo, .int .i64 s.half.hi, .int .i64 s.peak.lo, .int .i64 s.peak.hi, .slice p n c] 26)) = V := ⟨_, rfl⟩
    have H2 : Hid (Boxed1 w #[.int .i64 s.wide, .int .i64 s.high, .int .i64 s.fall, .int .i64 s.a.lo, .int .i64 s.a.hi, .int .i64 s.b.lo, .int .i64 s.b.hi, .int .i64 s.half.lo, .int .i64 s.half.hi, .int .i64 s.peak.lo, .int .i64 s.peak.hi, .slice p n c] 26 w2) := by show Boxed1 w #[.int .i64 s.wide, .int .i64 s.high, .int .i64 s.fall, .int .i64 s.a.lo, .int .i64 s.a.hi, .int .i64 s.b.lo, .int .i64 s.b.hi, .int .i64 s.half.lo, .int .i64 s.half.hi, .int .i64 s.peak.lo, .int .i64 s.peak.hi, .slice p n c] 26 w2; rw [← hw2]; exact H1.out.alloc _
    have HX : Hid (BoxIs w1.heap.size #[.int .i64 s.wide, .int .i64 s.high, .int .i64 s.fall, .int .i64 s.a.lo, .int .i64 s.a.hi, .int .i64 s.b.lo, .int .i64 s.b.hi, .int .i64 s.half.lo, .int .i64 s.half.hi, .int .i64 s.peak.lo, .int .i64 s.peak.hi, .slice p n c] w2) := by show BoxIs _ _ _; rw [← hw2]; exact BoxIs.start _ _ _
    have HBB : Hid (Below w1.heap.size w1 w2) := hid (by rw [← hw2]; exact (Below.refl _ _).alloc (Nat.le_refl _) _)
    go_upto_region 4 with fail
    clear hw2 HBB e0 e1 e2 e3 e4 e5 e6 e7 e8 e9 e10 e11
    have HLX : Hid (w.heap.size + 1 ≤ w1.heap.size) := hid H1.out.size
    have HLB : Hid (w1.heap.size < w2.heap.size) := hid HX.out.1
    obtain ⟨wa, hwa⟩ : ∃ V, w2.alloc (.cells #[] 61) = V := ⟨_, rfl⟩
    have HBA : Hid (Below w2.heap.size w2 wa) := hid (by rw [← hwa]; exact (Below.refl _ _).alloc (Nat.le_refl _) _)
    have HOA : Hid (OwnRows cellsK 7 61 wa w2.heap.size (.slice (some ⟨w2.heap.size, 0, none⟩) 0 0) []) := by show OwnRows _ _ _ _ _ _ _; rw [← hwa]; exact World.ownsRow_lit w2 #[] 0 (Nat.le_refl _) (by decide) rfl
    have HCA := hid (HC.out.below (H2.out.below.trans (HBA.out.mono H2.out.below.size)))
    have hsz := HBA.out.size
    have e11 := (StoAt.of (H2.out.step HBA.out).cell).c11
    go_upto_region 5 with (at_builtin; refine wpList_append_crds (by rfl) _ _ (by rfl) w2.heap.size _ [] p n c s.cards HOA.out (by rfl) (by rfl) HCA.out (by simp) (by omega) hsz ?_; intro v1 w11 h1 h2 h3; rw [List.nil_append] at h1; obtain ⟨q, d, hqd, _⟩ := h1.slice cellsK_len; obtain ⟨m, hm⟩ : ∃ m, s.cards.length = m := ⟨_, rfl⟩; rw [hm] at hqd; subst hqd; clear h3 e11; have HB1 := hid (HBA.out.trans h2); have HX1 := hid (HX.out.keep HB1.out HLB.out); have HO1 := hid h1; have HW1 := hid (H2.out.step HB1.out); clear h1 h2 hm hwa hsz; have z11 := (HX1.out.2 11 (.slice p n c) rfl).1; have zz11 := (HX1.out.2 11 (.slice p n c) rfl).2)
    have HX2 : Hid (BoxIs w1.heap.size #[.int .i64 s.wide, .int .i64 s.high, .int .i64 s.fall, .int .i64 s.a.lo, .int .i64 s.a.hi, .int .i64 s.b.lo, .int .i64 s.b.hi, .int .i64 s.half.lo, .int .i64 s.half.hi, .int .i64 s.peak.lo, .int .i64 s.peak.hi, .slice q m d] (w11.setCell ⟨w1.heap.size, 11, none⟩ (.slice q m d))) := hid (HX1.out.put (j := 11) (.slice q m d))
    have HO2 : Hid (OwnRows cellsK 7 61 (w11.setCell ⟨w1.heap.size, 11, none⟩ (.slice q m d)) w2.heap.size (.slice q m d) s.cards) := hid (HO1.out.block fun g hg => Below.heap_setCell _ _ _ _ (by have h1 := (HO1.out.lt g hg).1; have := HLB.out; show g ≠ w1.heap.size; omega))
    have HW2 : Hid (Boxed1 w #[.int .i64 s.wide, .int .i64 s.high, .int .i64 s.fall, .int .i64 s.a.lo, .int .i64 s.a.hi, .int .i64 s.b.lo, .int .i64 s.b.hi, .int .i64 s.half.lo, .int .i64 s.half.hi, .int .i64 s.peak.lo, .int .i64 s.peak.hi, .slice p n c] 26 (w11.setCell ⟨w1.heap.size, 11, none⟩ (.slice q m d))) := hid (HW1.out.step' (Below.setCell (Below.refl _ _) (p := ⟨w1.heap.size, 11, none⟩) HLX.out _))
    clear z11 zz11 HX1 HO1 HW1 HB1 HCA HOA HBA HX
    generalize (w11.setCell ⟨w1.heap.size, 11, none⟩ (.slice q m d)) = w12 at HX2 HO2 HW2 ⊢
    obtain ⟨u1, u2, u3, u4, u5⟩ := HQ.out
    obtain ⟨v1, v2, v3, v4, v5, v6⟩ := HQW.out
    go_upto_block 0 with fail
    clear u1 u2 u3 u4 u5 v1 v2 v3 v4 v5 v6
    go_cut [12, 13] from 27 (fun _ _ wr => ∃ (x : Sto) (q : Option Addr) (m d : Nat), Wid s x ∧ BoxIs w1.heap.size #[.int .i64 x.wide, .int .i64 x.high, .int .i64 x.fall, .int .i64 x.a.lo, .int .i64 x.a.hi, .int .i64 x.b.lo, .int .i64 x.b.hi, .int .i64 x.half.lo, .int .i64 x.half.hi, .int .i64 x.peak.lo, .int .i64 x.peak.hi, .slice q m d] wr ∧ CrdsAt wr q m x.cards ∧ Boxed1 w #[.int .i64 s.wide, .int .i64 s.high, .int .i64 s.fall, .int .i64 s.a.lo, .int .i64 s.a.hi, .int .i64 s.b.lo, .int .i64 s.b.hi, .int .i64 s.half.lo, .int .i64 s.half.hi, .int .i64 s.peak.lo, .int .i64 s.peak.hi, .slice p n c] 26 wr)
    case first =>
      have HK2 : Hid (CrdsAt w12 q m s.cards) := hid (by obtain ⟨q0, d0, e, hr⟩ := HO2.out.slice cellsK_len; cases e; exact crds_iff.2 hr)
      have HBQ : Hid (∀ a, q = some a → a.block ≠ w1.heap.size) := hid (fun a ha => by cases ha; have h1 := (HO2.out.lt _ rfl).1; have := HLB.out; omega)
      have HKQ : Hid (∀ (i j : Nat) (v1 v2 : Value), CrdsAt ((w12.setCell ⟨w1.heap.size, i, none⟩ v1).setCell ⟨w1.heap.size, j, none⟩ v2) q m s.cards) := hid (fun i j v1 v2 => (HK2.out.kept (by simp [World.setCell]) (fun a ha h0 hlt => Below.heap_setCell _ _ _ _ (HBQ.out a ha))).kept (by simp [World.setCell]) (fun a ha h0 hlt => Below.heap_setCell _ _ _ _ (HBQ.out a ha)))
      have hdl := HDL.out
      rcases HCS.out with hcs | hcs | hcs | hcs
      · as_aux_lemma =>
          subst hcs
          have hr := Rng.of_iff.1 HOK.out.a
          by_cases h1 : 0 < s.a.lo - lw
          · by_cases h2 : s.a.hi + hw < (s.high - 1)
            · skip
              have e1 := (StoAt.of HW2.out.cell).c1; have e3 := (StoAt.of HW2.out.cell).c3; have e4 := (StoAt.of HW2.out.cell).c4
              have k3 := (HX2.out.2 3 (.int .i64 s.a.lo) rfl).1; have f3 := (HX2.out.2 3 (.int .i64 s.a.lo) rfl).2; have k4 := (HX2.out.2 4 (.int .i64 s.a.hi) rfl).1; have f4 := (HX2.out.2 4 (.int .i64 s.a.hi) rfl).2
              have HXF : Hid (BoxIs w1.heap.size #[.int .i64 s.wide, .int .i64 s.high, .int .i64 s.fall, .int .i64 (s.a.lo - lw), .int .i64 (s.a.hi + hw), .int .i64 s.b.lo, .int .i64 s.b.hi, .int .i64 s.half.lo, .int .i64 s.half.hi, .int .i64 s.peak.lo, .int .i64 s.peak.hi, .slice q m d] ((w12.setCell ⟨w1.heap.size, 3, none⟩ (.int .i64 (s.a.lo - lw))).setCell ⟨w1.heap.size, 4, none⟩ (.int .i64 (s.a.hi + hw)))) := hid ((HX2.out.put (j := 3) (.int .i64 (s.a.lo - lw))).put (j := 4) (.int .i64 (s.a.hi + hw)))
              go_wp2_with fail
              go_meet
              case rel => exact ⟨⟨s.wide, s.high, s.fall, ⟨(s.a.lo - lw), (s.a.hi + hw)⟩, s.b, s.half, s.peak, s.cards⟩, q, m, d, wid_a (by show (s.a.lo - lw) ≤ _; omega) (by show _ ≤ (s.a.hi + hw); omega), HXF.out, HKQ.out 3 4 (.int .i64 (s.a.lo - lw)) (.int .i64 (s.a.hi + hw)), HW2.out.step' ((Below.setCell (Below.refl _ _) (p := ⟨w1.heap.size, 3, none⟩) HLX.out _).setCell (p := ⟨w1.heap.size, 4, none⟩) HLX.out _)⟩
            · skip
              have e1 := (StoAt.of HW2.out.cell).c1; have e3 := (StoAt.of HW2.out.cell).c3; have e4 := (StoAt.of HW2.out.cell).c4
              have k3 := (HX2.out.2 3 (.int .i64 s.a.lo) rfl).1; have f3 := (HX2.out.2 3 (.int .i64 s.a.lo) rfl).2; have k4 := (HX2.out.2 4 (.int .i64 s.a.hi) rfl).1; have f4 := (HX2.out.2 4 (.int .i64 s.a.hi) rfl).2
              have HXF : Hid (BoxIs w1.heap.size #[.int .i64 s.wide, .int .i64 s.high, .int .i64 s.fall, .int .i64 (s.a.lo - lw), .int .i64 (s.high - 1), .int .i64 s.b.lo, .int .i64 s.b.hi, .int .i64 s.half.lo, .int .i64 s.half.hi, .int .i64 s.peak.lo, .int .i64 s.peak.hi, .slice q m d] ((w12.setCell ⟨w1.heap.size, 3, none⟩ (.int .i64 (s.a.lo - lw))).setCell ⟨w1.heap.size, 4, none⟩ (.int .i64 (s.high - 1)))) := hid ((HX2.out.put (j := 3) (.int .i64 (s.a.lo - lw))).put (j := 4) (.int .i64 (s.high - 1)))
              go_wp2_with fail
              go_meet
              case rel => exact ⟨⟨s.wide, s.high, s.fall, ⟨(s.a.lo - lw), (s.high - 1)⟩, s.b, s.half, s.peak, s.cards⟩, q, m, d, wid_a (by show (s.a.lo - lw) ≤ _; omega) (by show _ ≤ (s.high - 1); omega), HXF.out, HKQ.out 3 4 (.int .i64 (s.a.lo - lw)) (.int .i64 (s.high - 1)), HW2.out.step' ((Below.setCell (Below.refl _ _) (p := ⟨w1.heap.size, 3, none⟩) HLX.out _).setCell (p := ⟨w1.heap.size, 4, none⟩) HLX.out _)⟩
          · by_cases h2 : s.a.hi + hw < (s.high - 1)
            · skip
              have e1 := (StoAt.of HW2.out.cell).c1; have e3 := (StoAt.of HW2.out.cell).c3; have e4 := (StoAt.of HW2.out.cell).c4
              have k3 := (HX2.out.2 3 (.int .i64 s.a.lo) rfl).1; have f3 := (HX2.out.2 3 (.int .i64 s.a.lo) rfl).2; have k4 := (HX2.out.2 4 (.int .i64 s.a.hi) rfl).1; have f4 := (HX2.out.2 4 (.int .i64 s.a.hi) rfl).2
              have HXF : Hid (BoxIs w1.heap.size #[.int .i64 s.wide, .int .i64 s.high, .int .i64 s.fall, .int .i64 0, .int .i64 (s.a.hi + hw), .int .i64 s.b.lo, .int .i64 s.b.hi, .int .i64 s.half.lo, .int .i64 s.half.hi, .int .i64 s.peak.lo, .int .i64 s.peak.hi, .slice q m d] ((w12.setCell ⟨w1.heap.size, 3, none⟩ (.int .i64 0)).setCell ⟨w1.heap.size, 4, none⟩ (.int .i64 (s.a.hi + hw)))) := hid ((HX2.out.put (j := 3) (.int .i64 0)).put (j := 4) (.int .i64 (s.a.hi + hw)))
              go_wp2_with fail
              go_meet
              case rel => exact ⟨⟨s.wide, s.high, s.fall, ⟨0, (s.a.hi + hw)⟩, s.b, s.half, s.peak, s.cards⟩, q, m, d, wid_a (by show 0 ≤ _; omega) (by show _ ≤ (s.a.hi + hw); omega), HXF.out, HKQ.out 3 4 (.int .i64 0) (.int .i64 (s.a.hi + hw)), HW2.out.step' ((Below.setCell (Below.refl _ _) (p := ⟨w1.heap.size, 3, none⟩) HLX.out _).setCell (p := ⟨w1.heap.size, 4, none⟩) HLX.out _)⟩
            · skip
              have e1 := (StoAt.of HW2.out.cell).c1; have e3 := (StoAt.of HW2.out.cell).c3; have e4 := (StoAt.of HW2.out.cell).c4
              have k3 := (HX2.out.2 3 (.int .i64 s.a.lo) rfl).1; have f3 := (HX2.out.2 3 (.int .i64 s.a.lo) rfl).2; have k4 := (HX2.out.2 4 (.int .i64 s.a.hi) rfl).1; have f4 := (HX2.out.2 4 (.int .i64 s.a.hi) rfl).2
              have HXF : Hid (BoxIs w1.heap.size #[.int .i64 s.wide, .int .i64 s.high, .int .i64 s.fall, .int .i64 0, .int .i64 (s.high - 1), .int .i64 s.b.lo, .int .i64 s.b.hi, .int .i64 s.half.lo, .int .i64 s.half.hi, .int .i64 s.peak.lo, .int .i64 s.peak.hi, .slice q m d] ((w12.setCell ⟨w1.heap.size, 3, none⟩ (.int .i64 0)).setCell ⟨w1.heap.size, 4, none⟩ (.int .i64 (s.high - 1)))) := hid ((HX2.out.put (j := 3) (.int .i64 0)).put (j := 4) (.int .i64 (s.high - 1)))
              go_wp2_with fail
              go_meet
              case rel => exact ⟨⟨s.wide, s.high, s.fall, ⟨0, (s.high - 1)⟩, s.b, s.half, s.peak, s.cards⟩, q, m, d, wid_a (by show 0 ≤ _; omega) (by show _ ≤ (s.high - 1); omega), HXF.out, HKQ.out 3 4 (.int .i64 0) (.int .i64 (s.high - 1)), HW2.out.step' ((Below.setCell (Below.refl _ _) (p := ⟨w1.heap.size, 3, none⟩) HLX.out _).setCell (p := ⟨w1.heap.size, 4, none⟩) HLX.out _)⟩
      · as_aux_lemma =>
          subst hcs
          have hr := Rng.of_iff.1 HOK.out.half
          by_cases h1 : 0 < s.half.lo - lw
          · by_cases h2 : s.half.hi + hw < 3
            · skip
              have e1 := (StoAt.of HW2.out.cell).c1; have e7 := (StoAt.of HW2.out.cell).c7; have e8 := (StoAt.of HW2.out.cell).c8
              have k7 := (HX2.out.2 7 (.int .i64 s.half.lo) rfl).1; have f7 := (HX2.out.2 7 (.int .i64 s.half.lo) rfl).2; have k8 := (HX2.out.2 8 (.int .i64 s.half.hi) rfl).1; have f8 := (HX2.out.2 8 (.int .i64 s.half.hi) rfl).2
              have HXF : Hid (BoxIs w1.heap.size #[.int .i64 s.wide, .int .i64 s.high, .int .i64 s.fall, .int .i64 s.a.lo, .int .i64 s.a.hi, .int .i64 s.b.lo, .int .i64 s.b.hi, .int .i64 (s.half.lo - lw), .int .i64 (s.half.hi + hw), .int .i64 s.peak.lo, .int .i64 s.peak.hi, .slice q m d] ((w12.setCell ⟨w1.heap.size, 7, none⟩ (.int .i64 (s.half.lo - lw))).setCell ⟨w1.heap.size, 8, none⟩ (.int .i64 (s.half.hi + hw)))) := hid ((HX2.out.put (j := 7) (.int .i64 (s.half.lo - lw))).put (j := 8) (.int .i64 (s.half.hi + hw)))
              go_wp2_with fail
              go_meet
              case rel => exact ⟨⟨s.wide, s.high, s.fall, s.a, s.b, ⟨(s.half.lo - lw), (s.half.hi + hw)⟩, s.peak, s.cards⟩, q, m, d, wid_half (by show (s.half.lo - lw) ≤ _; omega) (by show _ ≤ (s.half.hi + hw); omega), HXF.out, HKQ.out 7 8 (.int .i64 (s.half.lo - lw)) (.int .i64 (s.half.hi + hw)), HW2.out.step' ((Below.setCell (Below.refl _ _) (p := ⟨w1.heap.size, 7, none⟩) HLX.out _).setCell (p := ⟨w1.heap.size, 8, none⟩) HLX.out _)⟩
            · skip
              have e1 := (StoAt.of HW2.out.cell).c1; have e7 := (StoAt.of HW2.out.cell).c7; have e8 := (StoAt.of HW2.out.cell).c8
              have k7 := (HX2.out.2 7 (.int .i64 s.half.lo) rfl).1; have f7 := (HX2.out.2 7 (.int .i64 s.half.lo) rfl).2; have k8 := (HX2.out.2 8 (.int .i64 s.half.hi) rfl).1; have f8 := (HX2.out.2 8 (.int .i64 s.half.hi) rfl).2
              have HXF : Hid (BoxIs w1.heap.size #[.int .i64 s.wide, .int .i64 s.high, .int .i64 s.fall, .int .i64 s.a.lo, .int .i64 s.a.hi, .int .i64 s.b.lo, .int .i64 s.b.hi, .int .i64 (s.half.lo - lw), .int .i64 3, .int .i64 s.peak.lo, .int .i64 s.peak.hi, .slice q m d] ((w12.setCell ⟨w1.heap.size, 7, none⟩ (.int .i64 (s.half.lo - lw))).setCell ⟨w1.heap.size, 8, none⟩ (.int .i64 3))) := hid ((HX2.out.put (j := 7) (.int .i64 (s.half.lo - lw))).put (j := 8) (.int .i64 3))
              go_wp2_with fail
              go_meet
              case rel => exact ⟨⟨s.wide, s.high, s.fall, s.a, s.b, ⟨(s.half.lo - lw), 3⟩, s.peak, s.cards⟩, q, m, d, wid_half (by show (s.half.lo - lw) ≤ _; omega) (by show _ ≤ 3; omega), HXF.out, HKQ.out 7 8 (.int .i64 (s.half.lo - lw)) (.int .i64 3), HW2.out.step' ((Below.setCell (Below.refl _ _) (p := ⟨w1.heap.size, 7, none⟩) HLX.out _).setCell (p := ⟨w1.heap.size, 8, none⟩) HLX.out _)⟩
          · by_cases h2 : s.half.hi + hw < 3
            · skip
              have e1 := (StoAt.of HW2.out.cell).c1; have e7 := (StoAt.of HW2.out.cell).c7; have e8 := (StoAt.of HW2.out.cell).c8
              have k7 := (HX2.out.2 7 (.int .i64 s.half.lo) rfl).1; have f7 := (HX2.out.2 7 (.int .i64 s.half.lo) rfl).2; have k8 := (HX2.out.2 8 (.int .i64 s.half.hi) rfl).1; have f8 := (HX2.out.2 8 (.int .i64 s.half.hi) rfl).2
              have HXF : Hid (BoxIs w1.heap.size #[.int .i64 s.wide, .int .i64 s.high, .int .i64 s.fall, .int .i64 s.a.lo, .int .i64 s.a.hi, .int .i64 s.b.lo, .int .i64 s.b.hi, .int .i64 0, .int .i64 (s.half.hi + hw), .int .i64 s.peak.lo, .int .i64 s.peak.hi, .slice q m d] ((w12.setCell ⟨w1.heap.size, 7, none⟩ (.int .i64 0)).setCell ⟨w1.heap.size, 8, none⟩ (.int .i64 (s.half.hi + hw)))) := hid ((HX2.out.put (j := 7) (.int .i64 0)).put (j := 8) (.int .i64 (s.half.hi + hw)))
              go_wp2_with fail
              go_meet
              case rel => exact ⟨⟨s.wide, s.high, s.fall, s.a, s.b, ⟨0, (s.half.hi + hw)⟩, s.peak, s.cards⟩, q, m, d, wid_half (by show 0 ≤ _; omega) (by show _ ≤ (s.half.hi + hw); omega), HXF.out, HKQ.out 7 8 (.int .i64 0) (.int .i64 (s.half.hi + hw)), HW2.out.step' ((Below.setCell (Below.refl _ _) (p := ⟨w1.heap.size, 7, none⟩) HLX.out _).setCell (p := ⟨w1.heap.size, 8, none⟩) HLX.out _)⟩
            · skip
              have e1 := (StoAt.of HW2.out.cell).c1; have e7 := (StoAt.of HW2.out.cell).c7; have e8 := (StoAt.of HW2.out.cell).c8
              have k7 := (HX2.out.2 7 (.int .i64 s.half.lo) rfl).1; have f7 := (HX2.out.2 7 (.int .i64 s.half.lo) rfl).2; have k8 := (HX2.out.2 8 (.int .i64 s.half.hi) rfl).1; have f8 := (HX2.out.2 8 (.int .i64 s.half.hi) rfl).2
              have HXF : Hid (BoxIs w1.heap.size #[.int .i64 s.wide, .int .i64 s.high, .int .i64 s.fall, .int .i64 s.a.lo, .int .i64 s.a.hi, .int .i64 s.b.lo, .int .i64 s.b.hi, .int .i64 0, .int .i64 3, .int .i64 s.peak.lo, .int .i64 s.peak.hi, .slice q m d] ((w12.setCell ⟨w1.heap.size, 7, none⟩ (.int .i64 0)).setCell ⟨w1.heap.size, 8, none⟩ (.int .i64 3))) := hid ((HX2.out.put (j := 7) (.int .i64 0)).put (j := 8) (.int .i64 3))
              go_wp2_with fail
              go_meet
              case rel => exact ⟨⟨s.wide, s.high, s.fall, s.a, s.b, ⟨0, 3⟩, s.peak, s.cards⟩, q, m, d, wid_half (by show 0 ≤ _; omega) (by show _ ≤ 3; omega), HXF.out, HKQ.out 7 8 (.int .i64 0) (.int .i64 3), HW2.out.step' ((Below.setCell (Below.refl _ _) (p := ⟨w1.heap.size, 7, none⟩) HLX.out _).setCell (p := ⟨w1.heap.size, 8, none⟩) HLX.out _)⟩
      · as_aux_lemma =>
          subst hcs
          have hr := Rng.of_iff.1 HOK.out.peak
          by_cases h1 : 1 < s.peak.lo - lw
          · by_cases h2 : s.peak.hi + hw < 9
            · skip
              have e1 := (StoAt.of HW2.out.cell).c1; have e9 := (StoAt.of HW2.out.cell).c9; have e10 := (StoAt.of HW2.out.cell).c10
              have k9 := (HX2.out.2 9 (.int .i64 s.peak.lo) rfl).1; have f9 := (HX2.out.2 9 (.int .i64 s.peak.lo) rfl).2; have k10 := (HX2.out.2 10 (.int .i64 s.peak.hi) rfl).1; have f10 := (HX2.out.2 10 (.int .i64 s.peak.hi) rfl).2
              have HXF : Hid (BoxIs w1.heap.size #[.int .i64 s.wide, .int .i64 s.high, .int .i64 s.fall, .int .i64 s.a.lo, .int .i64 s.a.hi, .int .i64 s.b.lo, .int .i64 s.b.hi, .int .i64 s.half.lo, .int .i64 s.half.hi, .int .i64 (s.peak.lo - lw), .int .i64 (s.peak.hi + hw), .slice q m d] ((w12.setCell ⟨w1.heap.size, 9, none⟩ (.int .i64 (s.peak.lo - lw))).setCell ⟨w1.heap.size, 10, none⟩ (.int .i64 (s.peak.hi + hw)))) := hid ((HX2.out.put (j := 9) (.int .i64 (s.peak.lo - lw))).put (j := 10) (.int .i64 (s.peak.hi + hw)))
              go_wp2_with fail
              go_meet
              case rel => exact ⟨⟨s.wide, s.high, s.fall, s.a, s.b, s.half, ⟨(s.peak.lo - lw), (s.peak.hi + hw)⟩, s.cards⟩, q, m, d, wid_peak (by show (s.peak.lo - lw) ≤ _; omega) (by show _ ≤ (s.peak.hi + hw); omega), HXF.out, HKQ.out 9 10 (.int .i64 (s.peak.lo - lw)) (.int .i64 (s.peak.hi + hw)), HW2.out.step' ((Below.setCell (Below.refl _ _) (p := ⟨w1.heap.size, 9, none⟩) HLX.out _).setCell (p := ⟨w1.heap.size, 10, none⟩) HLX.out _)⟩
            · skip
              have e1 := (StoAt.of HW2.out.cell).c1; have e9 := (StoAt.of HW2.out.cell).c9; have e10 := (StoAt.of HW2.out.cell).c10
              have k9 := (HX2.out.2 9 (.int .i64 s.peak.lo) rfl).1; have f9 := (HX2.out.2 9 (.int .i64 s.peak.lo) rfl).2; have k10 := (HX2.out.2 10 (.int .i64 s.peak.hi) rfl).1; have f10 := (HX2.out.2 10 (.int .i64 s.peak.hi) rfl).2
              have HXF : Hid (BoxIs w1.heap.size #[.int .i64 s.wide, .int .i64 s.high, .int .i64 s.fall, .int .i64 s.a.lo, .int .i64 s.a.hi, .int .i64 s.b.lo, .int .i64 s.b.hi, .int .i64 s.half.lo, .int .i64 s.half.hi, .int .i64 (s.peak.lo - lw), .int .i64 9, .slice q m d] ((w12.setCell ⟨w1.heap.size, 9, none⟩ (.int .i64 (s.peak.lo - lw))).setCell ⟨w1.heap.size, 10, none⟩ (.int .i64 9))) := hid ((HX2.out.put (j := 9) (.int .i64 (s.peak.lo - lw))).put (j := 10) (.int .i64 9))
              go_wp2_with fail
              go_meet
              case rel => exact ⟨⟨s.wide, s.high, s.fall, s.a, s.b, s.half, ⟨(s.peak.lo - lw), 9⟩, s.cards⟩, q, m, d, wid_peak (by show (s.peak.lo - lw) ≤ _; omega) (by show _ ≤ 9; omega), HXF.out, HKQ.out 9 10 (.int .i64 (s.peak.lo - lw)) (.int .i64 9), HW2.out.step' ((Below.setCell (Below.refl _ _) (p := ⟨w1.heap.size, 9, none⟩) HLX.out _).setCell (p := ⟨w1.heap.size, 10, none⟩) HLX.out _)⟩
          · by_cases h2 : s.peak.hi + hw < 9
            · skip
              have e1 := (StoAt.of HW2.out.cell).c1; have e9 := (StoAt.of HW2.out.cell).c9; have e10 := (StoAt.of HW2.out.cell).c10
              have k9 := (HX2.out.2 9 (.int .i64 s.peak.lo) rfl).1; have f9 := (HX2.out.2 9 (.int .i64 s.peak.lo) rfl).2; have k10 := (HX2.out.2 10 (.int .i64 s.peak.hi) rfl).1; have f10 := (HX2.out.2 10 (.int .i64 s.peak.hi) rfl).2
              have HXF : Hid (BoxIs w1.heap.size #[.int .i64 s.wide, .int .i64 s.high, .int .i64 s.fall, .int .i64 s.a.lo, .int .i64 s.a.hi, .int .i64 s.b.lo, .int .i64 s.b.hi, .int .i64 s.half.lo, .int .i64 s.half.hi, .int .i64 1, .int .i64 (s.peak.hi + hw), .slice q m d] ((w12.setCell ⟨w1.heap.size, 9, none⟩ (.int .i64 1)).setCell ⟨w1.heap.size, 10, none⟩ (.int .i64 (s.peak.hi + hw)))) := hid ((HX2.out.put (j := 9) (.int .i64 1)).put (j := 10) (.int .i64 (s.peak.hi + hw)))
              go_wp2_with fail
              go_meet
              case rel => exact ⟨⟨s.wide, s.high, s.fall, s.a, s.b, s.half, ⟨1, (s.peak.hi + hw)⟩, s.cards⟩, q, m, d, wid_peak (by show 1 ≤ _; omega) (by show _ ≤ (s.peak.hi + hw); omega), HXF.out, HKQ.out 9 10 (.int .i64 1) (.int .i64 (s.peak.hi + hw)), HW2.out.step' ((Below.setCell (Below.refl _ _) (p := ⟨w1.heap.size, 9, none⟩) HLX.out _).setCell (p := ⟨w1.heap.size, 10, none⟩) HLX.out _)⟩
            · skip
              have e1 := (StoAt.of HW2.out.cell).c1; have e9 := (StoAt.of HW2.out.cell).c9; have e10 := (StoAt.of HW2.out.cell).c10
              have k9 := (HX2.out.2 9 (.int .i64 s.peak.lo) rfl).1; have f9 := (HX2.out.2 9 (.int .i64 s.peak.lo) rfl).2; have k10 := (HX2.out.2 10 (.int .i64 s.peak.hi) rfl).1; have f10 := (HX2.out.2 10 (.int .i64 s.peak.hi) rfl).2
              have HXF : Hid (BoxIs w1.heap.size #[.int .i64 s.wide, .int .i64 s.high, .int .i64 s.fall, .int .i64 s.a.lo, .int .i64 s.a.hi, .int .i64 s.b.lo, .int .i64 s.b.hi, .int .i64 s.half.lo, .int .i64 s.half.hi, .int .i64 1, .int .i64 9, .slice q m d] ((w12.setCell ⟨w1.heap.size, 9, none⟩ (.int .i64 1)).setCell ⟨w1.heap.size, 10, none⟩ (.int .i64 9))) := hid ((HX2.out.put (j := 9) (.int .i64 1)).put (j := 10) (.int .i64 9))
              go_wp2_with fail
              go_meet
              case rel => exact ⟨⟨s.wide, s.high, s.fall, s.a, s.b, s.half, ⟨1, 9⟩, s.cards⟩, q, m, d, wid_peak (by show 1 ≤ _; omega) (by show _ ≤ 9; omega), HXF.out, HKQ.out 9 10 (.int .i64 1) (.int .i64 9), HW2.out.step' ((Below.setCell (Below.refl _ _) (p := ⟨w1.heap.size, 9, none⟩) HLX.out _).setCell (p := ⟨w1.heap.size, 10, none⟩) HLX.out _)⟩
      · as_aux_lemma =>
          subst hcs
          by_cases hn0 : n = 0
          · skip
            have e11 := (StoAt.of HW2.out.cell).c11
            have hn1 : ¬ (0 : Int) < n := by omega
            have hn2 : ¬ 0 < n := by omega
            clear hn0
            go_wp2_with fail
            go_meet
            case rel => exact ⟨s, q, m, d, wid_same s, HX2.out, HK2.out, HW2.out⟩
          · skip
            obtain ⟨j, hj⟩ : ∃ j : Nat, wh / 4 % (n : Int) = (j : Int) := ⟨(wh / 4 % (n : Int)).toNat, by have := Int.emod_nonneg (wh / 4) (show (n : Int) ≠ 0 by omega); omega⟩
            have hjn : (j : Int) < n := by rw [← hj]; exact Int.emod_lt_of_pos _ (by omega)
            have hmn : m = n := by rw [HK2.out.1, ← HC.out.1]
            have HJ : Hid ((wh / 4).tmod (n : Int) = j ∧ IntKind.i64.wrap (wh / 4) = wh / 4 ∧ IntKind.i64.wrap (j : Int) = j ∧ ¬ (n : Int) = 0) := hid ⟨by rw [Int.tmod_eq_emod_of_nonneg (by have := HWH.out; omega), hj], IntWalk.i64_in _ (by have := HWH.out; omega), IntWalk.i64_in _ (by omega), by omega⟩
            clear hj
            have hjl : j < s.cards.length := by have := HC.out.1; omega
            obtain ⟨ck, hc⟩ : ∃ c, s.cards[j]? = some c := ⟨_, List.getElem?_eq_getElem hjl⟩
            have HCJ := hid hc
            have HSK := hid (HOK.out.smallK (List.mem_of_getElem? hc))
            have HKC := hid (List.all_eq_true.1 HOK.out.cards ck (List.mem_of_getElem? hc))
            obtain ⟨g1, o1, rfl, hlt1, c0, c1, c2, c3, _, _, _⟩ := HK2.out.2 j ck hc
            have HFZ := hid (own_fz HO2.out)
            have HG1 : Hid (w.heap.size + 1 ≤ g1 ∧ g1 ≠ w1.heap.size) := hid ⟨by have h1 := (HO2.out.lt g1 rfl).1; have h2 := HLB.out; have h3 := HLX.out; omega, HBQ.out _ rfl⟩
            have HC4 := hid (show w12.cell? ⟨g1, o1 + j * 7, none⟩ = some (.int .i64 ck.x.lo) ∧ w12.cell? ⟨g1, o1 + j * 7 + 1, none⟩ = some (.int .i64 ck.x.hi) ∧ w12.cell? ⟨g1, o1 + j * 7 + 2, none⟩ = some (.int .i64 ck.y.lo) ∧ w12.cell? ⟨g1, o1 + j * 7 + 3, none⟩ = some (.int .i64 ck.y.hi) from ⟨c0, c1, c2, c3⟩)
            clear c0 c1 c2 c3 hc hjl
            have e11 := (StoAt.of HW2.out.cell).c11
            have hn1 : (0 : Int) < n := by omega
            have hn2 : 0 < n := by omega
            have hjm : j < m := by omega
            have hjm2 : (j : Int) < m := by omega
            go_upto_region 9 with fail
            clear e11
            refine wp_region_held_drew (S := fun V => Boxed1 w #[.int .i64 s.wide, .int .i64 s.high, .int .i64 s.fall, .int .i64 s.a.lo, .int .i64 s.a.hi, .int .i64 s.b.lo, .int .i64 s.b.hi, .int .i64 s.half.lo, .int .i64 s.half.hi, .int .i64 s.peak.lo, .int .i64 s.peak.hi, .slice p n c] 26 V ∧ BoxIs w1.heap.size #[.int .i64 s.wide, .int .i64 s.high, .int .i64 s.fall, .int .i64 s.a.lo, .int .i64 s.a.hi, .int .i64 s.b.lo, .int .i64 s.b.hi, .int .i64 s.half.lo, .int .i64 s.half.hi, .int .i64 s.peak.lo, .int .i64 s.peak.hi, .slice (some ⟨g1, o1, none⟩) m d] V) (by kernel_rfl) (⟨HW2.out.drew, HX2.out.below (Below.refl _ _).drew⟩) (fun hS => ?_)
            simp only [List.size_toArray, List.length_cons, List.length_nil, Nat.reduceAdd, Array.replicate_succ, Array.replicate_zero, List.push_toArray, List.nil_append, List.cons_append]
            refine wpAnyH_take (i := 0) (v := ?_) rfl (by kernel_rfl) (by kernel_rfl) (by kernel_rfl) (fun _ _ _ h => h) (Or.inl ⟨by rfl, fun V hV => ?_⟩) (by assumption) ?_
            rotate_left
            · go_simp
              try with_reducible rfl
            try simp only [Act.put, List.getElem_toArray, List.getElem_cons_zero, List.setIfInBounds_toArray, List.set_cons_zero, List.set_cons_succ]
            refine wpAnyH_take (i := 1) (v := ?_) rfl (by kernel_rfl) (by kernel_rfl) (by kernel_rfl) (fun _ _ _ h => h) (Or.inl ⟨by rfl, fun V hV => ?_⟩) (by assumption) ?_
            rotate_left
            · have k11 := (hV.2.2 11 (.slice (some ⟨g1, o1, none⟩) m d) rfl).1; go_simp
              try with_reducible rfl
            try simp only [Act.put, List.getElem_toArray, List.getElem_cons_zero, List.getElem_cons_succ, List.setIfInBounds_toArray, List.set_cons_zero, List.set_cons_succ]
            refine wpAnyH_take (i := 2) (v := ?_) rfl (by kernel_rfl) (by kernel_rfl) (by kernel_rfl) (fun _ _ _ h => h) (Or.inl ⟨by rfl, fun V hV => ?_⟩) (by assumption) ?_
            rotate_left
            · go_simp
              try with_reducible rfl
            try simp only [Act.put, List.getElem_toArray, List.getElem_cons_zero, List.getElem_cons_succ, List.setIfInBounds_toArray, List.set_cons_zero, List.set_cons_succ]
            refine wpAnyH_take (i := 3) (v := ?_) rfl (by kernel_rfl) (by kernel_rfl) (by kernel_rfl) (fun _ _ _ h => h) (Or.inl ⟨by rfl, fun V hV => ?_⟩) (by assumption) ?_
            rotate_left
            · have u5 := HQ.out.2.2.2.2; have v6 := HQW.out.2.2.2.2.2; obtain ⟨j1, j2, j3, j4⟩ := HJ.out; go_simp
              try with_reducible rfl
            try simp only [Act.put, List.getElem_toArray, List.getElem_cons_zero, List.getElem_cons_succ, List.setIfInBounds_toArray, List.set_cons_zero, List.set_cons_succ]
            refine wpAnyH_take (i := 4) (v := ?_) rfl (by kernel_rfl) (by kernel_rfl) (by kernel_rfl) (fun _ _ _ h => h) (Or.inl ⟨by rfl, fun V hV => ?_⟩) (by assumption) ?_
            rotate_left
            · have u5 := HQ.out.2.2.2.2; have v6 := HQW.out.2.2.2.2.2; obtain ⟨j1, j2, j3, j4⟩ := HJ.out; go_simp
              try with_reducible rfl
            try simp only [Act.put, List.getElem_toArray, List.getElem_cons_zero, List.getElem_cons_succ, List.setIfInBounds_toArray, List.set_cons_zero, List.set_cons_succ]
            refine wpAnyH_take (i := 5) (v := ?_) rfl (by kernel_rfl) (by kernel_rfl) (by kernel_rfl) (fun _ _ _ h => h) (Or.inl ⟨by rfl, fun V hV => ?_⟩) (by assumption) ?_
            rotate_left
            · go_simp
              try with_reducible rfl
            try simp only [Act.put, List.getElem_toArray, List.getElem_cons_zero, List.getElem_cons_succ, List.setIfInBounds_toArray, List.set_cons_zero, List.set_cons_succ]
            refine wpAnyH_take (i := 6) (v := ?_) rfl (by kernel_rfl) (by kernel_rfl) (by kernel_rfl) (fun _ _ _ h => h) (Or.inl ⟨by rfl, fun V hV => ?_⟩) (by assumption) ?_
            rotate_left
            · have u5 := HQ.out.2.2.2.2; have v6 := HQW.out.2.2.2.2.2; obtain ⟨j1, j2, j3, j4⟩ := HJ.out; go_simp
              try with_reducible rfl
            try simp only [Act.put, List.getElem_toArray, List.getElem_cons_zero, List.getElem_cons_succ, List.setIfInBounds_toArray, List.set_cons_zero, List.set_cons_succ]
            refine wpAnyH_take (i := 7) (v := ?_) rfl (by kernel_rfl) (by kernel_rfl) (by kernel_rfl) (fun _ _ _ h => h) (Or.inl ⟨by rfl, fun V hV => ?_⟩) (by assumption) ?_
            rotate_left
            · go_simp
              try with_reducible rfl
            try simp only [Act.put, List.getElem_toArray, List.getElem_cons_zero, List.getElem_cons_succ, List.setIfInBounds_toArray, List.set_cons_zero, List.set_cons_succ]
            refine wpAnyH_take (i := 8) (v := ?_) rfl (by kernel_rfl) (by kernel_rfl) (by kernel_rfl) (fun _ _ _ h => h) (Or.inl ⟨by rfl, fun V hV => ?_⟩) (by assumption) ?_
            rotate_left
            · go_simp
              try with_reducible rfl
            try simp only [Act.put, List.getElem_toArray, List.getElem_cons_zero, List.getElem_cons_succ, List.setIfInBounds_toArray, List.set_cons_zero, List.set_cons_succ]
            refine wpAnyH_done (by kernel_rfl) ?_ _
            have HW3 := hid hS.1; have HX3 := hid hS.2
            clear hS
            go_upto_region 10 with fail
            obtain ⟨w13, hw13⟩ : ∃ V, w12.drew = V := ⟨_, rfl⟩
            have HBD : Hid (Below w12.heap.size w12 w12.drew) := hid (Below.refl _ _).drew
            obtain ⟨u0, hu0⟩ : ∃ V, w12.drew.drew = V := ⟨_, rfl⟩
            have HBU : Hid (Below w12.heap.size w12 u0) := hid (by rw [← hu0]; exact HBD.out.drew)
            clear hw13
            have HKU := hid (HK2.out.below HBU.out)
            have hg1l := hlt1
            have HCU : Hid (u0.cell? ⟨g1, o1 + j * 7, none⟩ = some (.int .i64 ck.x.lo) ∧ u0.cell? ⟨g1, o1 + j * 7 + 1, none⟩ = some (.int .i64 ck.x.hi) ∧ u0.cell? ⟨g1, o1 + j * 7 + 2, none⟩ = some (.int .i64 ck.y.lo) ∧ u0.cell? ⟨g1, o1 + j * 7 + 3, none⟩ = some (.int .i64 ck.y.hi)) := hid ⟨(HBU.out.cell (p := ⟨g1, o1 + j * 7, none⟩) hg1l).trans HC4.out.1, (HBU.out.cell (p := ⟨g1, o1 + j * 7 + 1, none⟩) hg1l).trans HC4.out.2.1, (HBU.out.cell (p := ⟨g1, o1 + j * 7 + 2, none⟩) hg1l).trans HC4.out.2.2.1, (HBU.out.cell (p := ⟨g1, o1 + j * 7 + 3, none⟩) hg1l).trans HC4.out.2.2.2⟩
            have HFU : Hid (∀ k, u0.frozen? ⟨g1, k, none⟩ = false) := hid (fun k => (HBU.out.frozen (p := ⟨g1, k, none⟩) hg1l).trans (HFZ.out k))
            have HW4 := hid HW3.out.drew; have HX4 := hid (HX3.out.below (Below.refl _ _).drew)
            rw [hu0] at HW4 HX4
            have HWR : Hid (IntKind.i64.wrap (ck.x.lo - lw) = ck.x.lo - lw ∧ IntKind.i64.wrap (s.wide - 1) = s.wide - 1 ∧ IntKind.i64.wrap (ck.x.hi + hw) = ck.x.hi + hw ∧ IntKind.i64.wrap (ck.y.lo - hw) = ck.y.lo - hw ∧ IntKind.i64.wrap (s.high - 1) = s.high - 1 ∧ IntKind.i64.wrap (ck.y.hi + lw) = ck.y.hi + lw) := hid (by have h1 := HSK.out.x0; have h2 := HSK.out.x9; have h3 := HSK.out.xx; have h4 := HSK.out.y0; have h5 := HSK.out.y9; have h6 := HSK.out.yy; exact ⟨IntWalk.i64_in _ (by omega), IntWalk.i64_in _ (by omega), IntWalk.i64_in _ (by omega), IntWalk.i64_in _ (by omega), IntWalk.i64_in _ (by omega), IntWalk.i64_in _ (by omega)⟩)
            refine wp_region_listed (S := fun l V => (Boxed1 w #[.int .i64 s.wide, .int .i64 s.high, .int .i64 s.fall, .int .i64 s.a.lo, .int .i64 s.a.hi, .int .i64 s.b.lo, .int .i64 s.b.hi, .int .i64 s.half.lo, .int .i64 s.half.hi, .int .i64 s.peak.lo, .int .i64 s.peak.hi, .slice p n c] 26 V ∧ BoxIs w1.heap.size #[.int .i64 s.wide, .int .i64 s.high, .int .i64 s.fall, .int .i64 s.a.lo, .int .i64 s.a.hi, .int .i64 s.b.lo, .int .i64 s.b.hi, .int .i64 s.half.lo, .int .i64 s.half.hi, .int .i64 s.peak.lo, .int .i64 s.peak.hi, .slice (some ⟨g1, o1, none⟩) m d] V) ∧ (l.getD 44 true = false → V.cell? ⟨g1, o1 + j * 7, none⟩ = some (.int .i64 ck.x.lo) ∧ V.cell? ⟨g1, o1 + j * 7 + 1, none⟩ = some (.int .i64 ck.x.hi) ∧ V.cell? ⟨g1, o1 + j * 7 + 2, none⟩ = some (.int .i64 ck.y.lo) ∧ V.cell? ⟨g1, o1 + j * 7 + 3, none⟩ = some (.int .i64 ck.y.hi))) (by kernel_rfl) (by rw [hu0]; exact ⟨⟨HW4.out, HX4.out⟩, fun _ => HCU.out⟩) (fun hS => ?_)
            simp only [List.size_toArray, List.length_cons, List.length_nil, Nat.reduceAdd, Array.replicate_succ, Array.replicate_zero, List.push_toArray, List.nil_append, List.cons_append]
            rw [hu0] at hS ⊢
            clear hu0
            refine anyL_take [] (i := 0) (v := ?_) rfl (by kernel_rfl) (by kernel_rfl) (by kernel_rfl) (fun _ _ _ h => h) (by kernel_rfl) (by kernel_rfl) (fun _ _ => and_congr Iff.rfl (imp_congr (getD_set_iff (by decide)) Iff.rfl)) (Or.inl ⟨by rfl, fun V hV => ?_⟩) (by assumption) ?_
            rotate_left
            · go_simp
              try with_reducible rfl
            try simp only [Act.put, List.getElem_toArray, List.getElem_cons_zero, List.setIfInBounds_toArray, List.set_cons_zero, List.set_cons_succ]
            refine anyL_take [] (i := 1) (v := ?_) rfl (by kernel_rfl) (by kernel_rfl) (by kernel_rfl) (fun _ _ _ h => h) (by kernel_rfl) (by kernel_rfl) (fun _ _ => and_congr Iff.rfl (imp_congr (getD_set_iff (by decide)) Iff.rfl)) (Or.inl ⟨by rfl, fun V hV => ?_⟩) (by assumption) ?_
            rotate_left
            · go_simp
              try with_reducible rfl
            try simp only [Act.put, List.getElem_toArray, List.getElem_cons_zero, List.getElem_cons_succ, List.setIfInBounds_toArray, List.set_cons_zero, List.set_cons_succ]
            refine anyL_take [] (i := 2) (v := ?_) rfl (by kernel_rfl) (by kernel_rfl) (by kernel_rfl) (fun _ _ _ h => h) (by kernel_rfl) (by kernel_rfl) (fun _ _ => and_congr Iff.rfl (imp_congr (getD_set_iff (by decide)) Iff.rfl)) (Or.inl ⟨by rfl, fun V hV => ?_⟩) (by assumption) ?_
            rotate_left
            · go_simp
              try with_reducible rfl
            try simp only [Act.put, List.getElem_toArray, List.getElem_cons_zero, List.getElem_cons_succ, List.setIfInBounds_toArray, List.set_cons_zero, List.set_cons_succ]
            refine anyL_take [] (i := 3) (v := ?_) rfl (by kernel_rfl) (by kernel_rfl) (by kernel_rfl) (fun _ _ _ h => h) (by kernel_rfl) (by kernel_rfl) (fun _ _ => and_congr Iff.rfl (imp_congr (getD_set_iff (by decide)) Iff.rfl)) (Or.inl ⟨by rfl, fun V hV => ?_⟩) (by assumption) ?_
            rotate_left
            · go_simp
              try with_reducible rfl
            try simp only [Act.put, List.getElem_toArray, List.getElem_cons_zero, List.getElem_cons_succ, List.setIfInBounds_toArray, List.set_cons_zero, List.set_cons_succ]
            refine anyL_take [] (i := 4) (v := ?_) rfl (by kernel_rfl) (by kernel_rfl) (by kernel_rfl) (fun _ _ _ h => h) (by kernel_rfl) (by kernel_rfl) (fun _ _ => and_congr Iff.rfl (imp_congr (getD_set_iff (by decide)) Iff.rfl)) (Or.inl ⟨by rfl, fun V hV => ?_⟩) (by assumption) ?_
            rotate_left
            · go_simp
              try with_reducible rfl
            try simp only [Act.put, List.getElem_toArray, List.getElem_cons_zero, List.getElem_cons_succ, List.setIfInBounds_toArray, List.set_cons_zero, List.set_cons_succ]
            refine anyL_take [] (i := 5) (v := ?_) rfl (by kernel_rfl) (by kernel_rfl) (by kernel_rfl) (fun _ _ _ h => h) (by kernel_rfl) (by kernel_rfl) (fun _ _ => and_congr Iff.rfl (imp_congr (getD_set_iff (by decide)) Iff.rfl)) (Or.inl ⟨by rfl, fun V hV => ?_⟩) (by assumption) ?_
            rotate_left
            · go_simp
              try with_reducible rfl
            try simp only [Act.put, List.getElem_toArray, List.getElem_cons_zero, List.getElem_cons_succ, List.setIfInBounds_toArray, List.set_cons_zero, List.set_cons_succ]
            refine anyL_take [44] (i := 6) (v := ?_) rfl (by kernel_rfl) (by kernel_rfl) (by kernel_rfl) (fun _ _ _ h => h) (by kernel_rfl) (by kernel_rfl) (fun _ _ => and_congr Iff.rfl (imp_congr (getD_set_iff (by decide)) Iff.rfl)) (Or.inl ⟨by rfl, fun V hV => ?_⟩) (by assumption) ?_
            rotate_left
            · obtain ⟨l, hn, hV⟩ := hV; have ⟨c0, c1, c2, c3⟩ := hV.2 (hn 44 (by simp)); go_simp
              try with_reducible rfl
            try simp only [Act.put, List.getElem_toArray, List.getElem_cons_zero, List.getElem_cons_succ, List.setIfInBounds_toArray, List.set_cons_zero, List.set_cons_succ]
            refine anyL_take [] (i := 7) (v := ?_) rfl (by kernel_rfl) (by kernel_rfl) (by kernel_rfl) (fun _ _ _ h => h) (by kernel_rfl) (by kernel_rfl) (fun _ _ => and_congr Iff.rfl (imp_congr (getD_set_iff (by decide)) Iff.rfl)) (Or.inl ⟨by rfl, fun V hV => ?_⟩) (by assumption) ?_
            rotate_left
            · go_simp
              try with_reducible rfl
            try simp only [Act.put, List.getElem_toArray, List.getElem_cons_zero, List.getElem_cons_succ, List.setIfInBounds_toArray, List.set_cons_zero, List.set_cons_succ]
            refine anyL_take [] (i := 8) (v := ?_) rfl (by kernel_rfl) (by kernel_rfl) (by kernel_rfl) (fun _ _ _ h => h) (by kernel_rfl) (by kernel_rfl) (fun _ _ => and_congr Iff.rfl (imp_congr (getD_set_iff (by decide)) Iff.rfl)) (Or.inl ⟨by rfl, fun V hV => ?_⟩) (by assumption) ?_
            rotate_left
            · obtain ⟨l, hn, hV⟩ := hV; have ⟨r1, r2, r3, r4, r5, r6⟩ := HWR.out; go_simp
              try with_reducible rfl
            try simp only [Act.put, List.getElem_toArray, List.getElem_cons_zero, List.getElem_cons_succ, List.setIfInBounds_toArray, List.set_cons_zero, List.set_cons_succ]
            refine anyL_take [] (i := 9) (v := ?_) rfl (by kernel_rfl) (by kernel_rfl) (by kernel_rfl) (fun _ _ _ h => h) (by kernel_rfl) (by kernel_rfl) (fun _ _ => and_congr Iff.rfl (imp_congr (getD_set_iff (by decide)) Iff.rfl)) (Or.inl ⟨by rfl, fun V hV => ?_⟩) (by assumption) ?_
            rotate_left
            · go_simp
              try with_reducible rfl
            try simp only [Act.put, List.getElem_toArray, List.getElem_cons_zero, List.getElem_cons_succ, List.setIfInBounds_toArray, List.set_cons_zero, List.set_cons_succ]
            refine anyL_take [] (i := 10) (v := ?_) rfl (by kernel_rfl) (by kernel_rfl) (by kernel_rfl) (fun _ _ _ h => h) (by kernel_rfl) (by kernel_rfl) (fun _ _ => and_congr Iff.rfl (imp_congr (getD_set_iff (by decide)) Iff.rfl)) (Or.inl ⟨by rfl, fun V hV => ?_⟩) (by assumption) ?_
            rotate_left
            · go_simp
              try with_reducible rfl
            try simp only [Act.put, List.getElem_toArray, List.getElem_cons_zero, List.getElem_cons_succ, List.setIfInBounds_toArray, List.set_cons_zero, List.set_cons_succ]
            refine anyL_take [] (i := 11) (v := ?_) rfl (by kernel_rfl) (by kernel_rfl) (by kernel_rfl) (fun _ _ _ h => h) (by kernel_rfl) (by kernel_rfl) (fun _ _ => and_congr Iff.rfl (imp_congr (getD_set_iff (by decide)) Iff.rfl)) (Or.inl ⟨by rfl, fun V hV => ?_⟩) (by assumption) ?_
            rotate_left
            · obtain ⟨l, hn, hV⟩ := hV; have e0 := (StoAt.of hV.1.1.cell).c0; have e1 := (StoAt.of hV.1.1.cell).c1; go_simp
              try with_reducible rfl
            try simp only [Act.put, List.getElem_toArray, List.getElem_cons_zero, List.getElem_cons_succ, List.setIfInBounds_toArray, List.set_cons_zero, List.set_cons_succ]
            refine anyL_take [] (i := 12) (v := ?_) rfl (by kernel_rfl) (by kernel_rfl) (by kernel_rfl) (fun _ _ _ h => h) (by kernel_rfl) (by kernel_rfl) (fun _ _ => and_congr Iff.rfl (imp_congr (getD_set_iff (by decide)) Iff.rfl)) (Or.inl ⟨by rfl, fun V hV => ?_⟩) (by assumption) ?_
            rotate_left
            · obtain ⟨l, hn, hV⟩ := hV; have ⟨r1, r2, r3, r4, r5, r6⟩ := HWR.out; go_simp
              try with_reducible rfl
            try simp only [Act.put, List.getElem_toArray, List.getElem_cons_zero, List.getElem_cons_succ, List.setIfInBounds_toArray, List.set_cons_zero, List.set_cons_succ]
            refine anyL_take [] (i := 13) (v := ?_) rfl (by kernel_rfl) (by kernel_rfl) (by kernel_rfl) (fun _ _ _ h => h) (by kernel_rfl) (by kernel_rfl) (fun _ _ => and_congr Iff.rfl (imp_congr (getD_set_iff (by decide)) Iff.rfl)) (Or.inl ⟨by rfl, fun V hV => ?_⟩) (by assumption) ?_
            rotate_left
            · go_simp
              try with_reducible rfl
            try simp only [Act.put, List.getElem_toArray, List.getElem_cons_zero, List.getElem_cons_succ, List.setIfInBounds_toArray, List.set_cons_zero, List.set_cons_succ]
            refine anyL_take [] (i := 14) (v := ?_) rfl (by kernel_rfl) (by kernel_rfl) (by kernel_rfl) (fun _ _ _ h => h) (by kernel_rfl) (by kernel_rfl) (fun _ _ => and_congr Iff.rfl (imp_congr (getD_set_iff (by decide)) Iff.rfl)) (Or.inl ⟨by rfl, fun V hV => ?_⟩) (by assumption) ?_
            rotate_left
            · go_simp
              try with_reducible rfl
            try simp only [Act.put, List.getElem_toArray, List.getElem_cons_zero, List.getElem_cons_succ, List.setIfInBounds_toArray, List.set_cons_zero, List.set_cons_succ]
            refine anyL_take [] (i := 15) (v := ?_) rfl (by kernel_rfl) (by kernel_rfl) (by kernel_rfl) (fun _ _ _ h => h) (by kernel_rfl) (by kernel_rfl) (fun _ _ => and_congr Iff.rfl (imp_congr (getD_set_iff (by decide)) Iff.rfl)) (Or.inl ⟨by rfl, fun V hV => ?_⟩) (by assumption) ?_
            rotate_left
            · go_simp
              try with_reducible rfl
            try simp only [Act.put, List.getElem_toArray, List.getElem_cons_zero, List.getElem_cons_succ, List.setIfInBounds_toArray, List.set_cons_zero, List.set_cons_succ]
            refine anyL_take [] (i := 16) (v := ?_) rfl (by kernel_rfl) (by kernel_rfl) (by kernel_rfl) (fun _ _ _ h => h) (by kernel_rfl) (by kernel_rfl) (fun _ _ => and_congr Iff.rfl (imp_congr (getD_set_iff (by decide)) Iff.rfl)) (Or.inl ⟨by rfl, fun V hV => ?_⟩) (by assumption) ?_
            rotate_left
            · go_simp
              try with_reducible rfl
            try simp only [Act.put, List.getElem_toArray, List.getElem_cons_zero, List.getElem_cons_succ, List.setIfInBounds_toArray, List.set_cons_zero, List.set_cons_succ]
            refine anyL_take [44] (i := 17) (v := ?_) rfl (by kernel_rfl) (by kernel_rfl) (by kernel_rfl) (fun _ _ _ h => h) (by kernel_rfl) (by kernel_rfl) (fun _ _ => and_congr Iff.rfl (imp_congr (getD_set_iff (by decide)) Iff.rfl)) (Or.inl ⟨by rfl, fun V hV => ?_⟩) (by assumption) ?_
            rotate_left
            · obtain ⟨l, hn, hV⟩ := hV; have ⟨c0, c1, c2, c3⟩ := hV.2 (hn 44 (by simp)); go_simp
              try with_reducible rfl
            try simp only [Act.put, List.getElem_toArray, List.getElem_cons_zero, List.getElem_cons_succ, List.setIfInBounds_toArray, List.set_cons_zero, List.set_cons_succ]
            refine anyL_take [] (i := 18) (v := ?_) rfl (by kernel_rfl) (by kernel_rfl) (by kernel_rfl) (fun _ _ _ h => h) (by kernel_rfl) (by kernel_rfl) (fun _ _ => and_congr Iff.rfl (imp_congr (getD_set_iff (by decide)) Iff.rfl)) (Or.inl ⟨by rfl, fun V hV => ?_⟩) (by assumption) ?_
            rotate_left
            · go_simp
              try with_reducible rfl
            try simp only [Act.put, List.getElem_toArray, List.getElem_cons_zero, List.getElem_cons_succ, List.setIfInBounds_toArray, List.set_cons_zero, List.set_cons_succ]
            refine anyL_take [] (i := 19) (v := ?_) rfl (by kernel_rfl) (by kernel_rfl) (by kernel_rfl) (fun _ _ _ h => h) (by kernel_rfl) (by kernel_rfl) (fun _ _ => and_congr Iff.rfl (imp_congr (getD_set_iff (by decide)) Iff.rfl)) (Or.inl ⟨by rfl, fun V hV => ?_⟩) (by assumption) ?_
            rotate_left
            · obtain ⟨l, hn, hV⟩ := hV; have ⟨r1, r2, r3, r4, r5, r6⟩ := HWR.out; go_simp
              try with_reducible rfl
            try simp only [Act.put, List.getElem_toArray, List.getElem_cons_zero, List.getElem_cons_succ, List.setIfInBounds_toArray, List.set_cons_zero, List.set_cons_succ]
            refine anyL_take [] (i := 20) (v := ?_) rfl (by kernel_rfl) (by kernel_rfl) (by kernel_rfl) (fun _ _ _ h => h) (by kernel_rfl) (by kernel_rfl) (fun _ _ => and_congr Iff.rfl (imp_congr (getD_set_iff (by decide)) Iff.rfl)) (Or.inl ⟨by rfl, fun V hV => ?_⟩) (by assumption) ?_
            rotate_left
            · go_simp
              try with_reducible rfl
            try simp only [Act.put, List.getElem_toArray, List.getElem_cons_zero, List.getElem_cons_succ, List.setIfInBounds_toArray, List.set_cons_zero, List.set_cons_succ]
            refine anyL_take [] (i := 21) (v := ?_) rfl (by kernel_rfl) (by kernel_rfl) (by kernel_rfl) (fun _ _ _ h => h) (by kernel_rfl) (by kernel_rfl) (fun _ _ => and_congr Iff.rfl (imp_congr (getD_set_iff (by decide)) Iff.rfl)) (Or.inl ⟨by rfl, fun V hV => ?_⟩) (by assumption) ?_
            rotate_left
            · go_simp
              try with_reducible rfl
            try simp only [Act.put, List.getElem_toArray, List.getElem_cons_zero, List.getElem_cons_succ, List.setIfInBounds_toArray, List.set_cons_zero, List.set_cons_succ]
            refine anyL_take [] (i := 22) (v := ?_) rfl (by kernel_rfl) (by kernel_rfl) (by kernel_rfl) (fun _ _ _ h => h) (by kernel_rfl) (by kernel_rfl) (fun _ _ => and_congr Iff.rfl (imp_congr (getD_set_iff (by decide)) Iff.rfl)) (Or.inl ⟨by rfl, fun V hV => ?_⟩) (by assumption) ?_
            rotate_left
            · go_simp
              try with_reducible rfl
            try simp only [Act.put, List.getElem_toArray, List.getElem_cons_zero, List.getElem_cons_succ, List.setIfInBounds_toArray, List.set_cons_zero, List.set_cons_succ]
            refine anyL_take [] (i := 23) (v := ?_) rfl (by kernel_rfl) (by kernel_rfl) (by kernel_rfl) (fun _ _ _ h => h) (by kernel_rfl) (by kernel_rfl) (fun _ _ => and_congr Iff.rfl (imp_congr (getD_set_iff (by decide)) Iff.rfl)) (Or.inl ⟨by rfl, fun V hV => ?_⟩) (by assumption) ?_
            rotate_left
            · go_simp
              try with_reducible rfl
            try simp only [Act.put, List.getElem_toArray, List.getElem_cons_zero, List.getElem_cons_succ, List.setIfInBounds_toArray, List.set_cons_zero, List.set_cons_succ]
            refine anyL_take [] (i := 24) (v := ?_) rfl (by kernel_rfl) (by kernel_rfl) (by kernel_rfl) (fun _ _ _ h => h) (by kernel_rfl) (by kernel_rfl) (fun _ _ => and_congr Iff.rfl (imp_congr (getD_set_iff (by decide)) Iff.rfl)) (Or.inl ⟨by rfl, fun V hV => ?_⟩) (by assumption) ?_
            rotate_left
            · go_simp
              try with_reducible rfl
            try simp only [Act.put, List.getElem_toArray, List.getElem_cons_zero, List.getElem_cons_succ, List.setIfInBounds_toArray, List.set_cons_zero, List.set_cons_succ]
            refine anyL_take [] (i := 25) (v := ?_) rfl (by kernel_rfl) (by kernel_rfl) (by kernel_rfl) (fun _ _ _ h => h) (by kernel_rfl) (by kernel_rfl) (fun _ _ => and_congr Iff.rfl (imp_congr (getD_set_iff (by decide)) Iff.rfl)) (Or.inl ⟨by rfl, fun V hV => ?_⟩) (by assumption) ?_
            rotate_left
            · go_simp
              try with_reducible rfl
            try simp only [Act.put, List.getElem_toArray, List.getElem_cons_zero, List.getElem_cons_succ, List.setIfInBounds_toArray, List.set_cons_zero, List.set_cons_succ]
            refine anyL_take [44] (i := 26) (v := ?_) rfl (by kernel_rfl) (by kernel_rfl) (by kernel_rfl) (fun _ _ _ h => h) (by kernel_rfl) (by kernel_rfl) (fun _ _ => and_congr Iff.rfl (imp_congr (getD_set_iff (by decide)) Iff.rfl)) (Or.inl ⟨by rfl, fun V hV => ?_⟩) (by assumption) ?_
            rotate_left
            · obtain ⟨l, hn, hV⟩ := hV; have ⟨c0, c1, c2, c3⟩ := hV.2 (hn 44 (by simp)); go_simp
              try with_reducible rfl
            try simp only [Act.put, List.getElem_toArray, List.getElem_cons_zero, List.getElem_cons_succ, List.setIfInBounds_toArray, List.set_cons_zero, List.set_cons_succ]
            refine anyL_take [] (i := 27) (v := ?_) rfl (by kernel_rfl) (by kernel_rfl) (by kernel_rfl) (fun _ _ _ h => h) (by kernel_rfl) (by kernel_rfl) (fun _ _ => and_congr Iff.rfl (imp_congr (getD_set_iff (by decide)) Iff.rfl)) (Or.inl ⟨by rfl, fun V hV => ?_⟩) (by assumption) ?_
            rotate_left
            · go_simp
              try with_reducible rfl
            try simp only [Act.put, List.getElem_toArray, List.getElem_cons_zero, List.getElem_cons_succ, List.setIfInBounds_toArray, List.set_cons_zero, List.set_cons_succ]
            refine anyL_take [] (i := 28) (v := ?_) rfl (by kernel_rfl) (by kernel_rfl) (by kernel_rfl) (fun _ _ _ h => h) (by kernel_rfl) (by kernel_rfl) (fun _ _ => and_congr Iff.rfl (imp_congr (getD_set_iff (by decide)) Iff.rfl)) (Or.inl ⟨by rfl, fun V hV => ?_⟩) (by assumption) ?_
            rotate_left
            · obtain ⟨l, hn, hV⟩ := hV; have ⟨r1, r2, r3, r4, r5, r6⟩ := HWR.out; go_simp
              try with_reducible rfl
            try simp only [Act.put, List.getElem_toArray, List.getElem_cons_zero, List.getElem_cons_succ, List.setIfInBounds_toArray, List.set_cons_zero, List.set_cons_succ]
            refine anyL_take [] (i := 29) (v := ?_) rfl (by kernel_rfl) (by kernel_rfl) (by kernel_rfl) (fun _ _ _ h => h) (by kernel_rfl) (by kernel_rfl) (fun _ _ => and_congr Iff.rfl (imp_congr (getD_set_iff (by decide)) Iff.rfl)) (Or.inl ⟨by rfl, fun V hV => ?_⟩) (by assumption) ?_
            rotate_left
            · go_simp
              try with_reducible rfl
            try simp only [Act.put, List.getElem_toArray, List.getElem_cons_zero, List.getElem_cons_succ, List.setIfInBounds_toArray, List.set_cons_zero, List.set_cons_succ]
            refine anyL_take [] (i := 30) (v := ?_) rfl (by kernel_rfl) (by kernel_rfl) (by kernel_rfl) (fun _ _ _ h => h) (by kernel_rfl) (by kernel_rfl) (fun _ _ => and_congr Iff.rfl (imp_congr (getD_set_iff (by decide)) Iff.rfl)) (Or.inl ⟨by rfl, fun V hV => ?_⟩) (by assumption) ?_
            rotate_left
            · go_simp
              try with_reducible rfl
            try simp only [Act.put, List.getElem_toArray, List.getElem_cons_zero, List.getElem_cons_succ, List.setIfInBounds_toArray, List.set_cons_zero, List.set_cons_succ]
            refine anyL_take [] (i := 31) (v := ?_) rfl (by kernel_rfl) (by kernel_rfl) (by kernel_rfl) (fun _ _ _ h => h) (by kernel_rfl) (by kernel_rfl) (fun _ _ => and_congr Iff.rfl (imp_congr (getD_set_iff (by decide)) Iff.rfl)) (Or.inl ⟨by rfl, fun V hV => ?_⟩) (by assumption) ?_
            rotate_left
            · obtain ⟨l, hn, hV⟩ := hV; have e0 := (StoAt.of hV.1.1.cell).c0; have e1 := (StoAt.of hV.1.1.cell).c1; go_simp
              try with_reducible rfl
            try simp only [Act.put, List.getElem_toArray, List.getElem_cons_zero, List.getElem_cons_succ, List.setIfInBounds_toArray, List.set_cons_zero, List.set_cons_succ]
            refine anyL_take [] (i := 32) (v := ?_) rfl (by kernel_rfl) (by kernel_rfl) (by kernel_rfl) (fun _ _ _ h => h) (by kernel_rfl) (by kernel_rfl) (fun _ _ => and_congr Iff.rfl (imp_congr (getD_set_iff (by decide)) Iff.rfl)) (Or.inl ⟨by rfl, fun V hV => ?_⟩) (by assumption) ?_
            rotate_left
            · obtain ⟨l, hn, hV⟩ := hV; have ⟨r1, r2, r3, r4, r5, r6⟩ := HWR.out; go_simp
              try with_reducible rfl
            try simp only [Act.put, List.getElem_toArray, List.getElem_cons_zero, List.getElem_cons_succ, List.setIfInBounds_toArray, List.set_cons_zero, List.set_cons_succ]
            refine anyL_take [] (i := 33) (v := ?_) rfl (by kernel_rfl) (by kernel_rfl) (by kernel_rfl) (fun _ _ _ h => h) (by kernel_rfl) (by kernel_rfl) (fun _ _ => and_congr Iff.rfl (imp_congr (getD_set_iff (by decide)) Iff.rfl)) (Or.inl ⟨by rfl, fun V hV => ?_⟩) (by assumption) ?_
            rotate_left
            · go_simp
              try with_reducible rfl
            try simp only [Act.put, List.getElem_toArray, List.getElem_cons_zero, List.getElem_cons_succ, List.setIfInBounds_toArray, List.set_cons_zero, List.set_cons_succ]
            refine anyL_take [] (i := 34) (v := ?_) rfl (by kernel_rfl) (by kernel_rfl) (by kernel_rfl) (fun _ _ _ h => h) (by kernel_rfl) (by kernel_rfl) (fun _ _ => and_congr Iff.rfl (imp_congr (getD_set_iff (by decide)) Iff.rfl)) (Or.inl ⟨by rfl, fun V hV => ?_⟩) (by assumption) ?_
            rotate_left
            · go_simp
              try with_reducible rfl
            try simp only [Act.put, List.getElem_toArray, List.getElem_cons_zero, List.getElem_cons_succ, List.setIfInBounds_toArray, List.set_cons_zero, List.set_cons_succ]
            refine anyL_take [] (i := 35) (v := ?_) rfl (by kernel_rfl) (by kernel_rfl) (by kernel_rfl) (fun _ _ _ h => h) (by kernel_rfl) (by kernel_rfl) (fun _ _ => and_congr Iff.rfl (imp_congr (getD_set_iff (by decide)) Iff.rfl)) (Or.inl ⟨by rfl, fun V hV => ?_⟩) (by assumption) ?_
            rotate_left
            · go_simp
              try with_reducible rfl
            try simp only [Act.put, List.getElem_toArray, List.getElem_cons_zero, List.getElem_cons_succ, List.setIfInBounds_toArray, List.set_cons_zero, List.set_cons_succ]
            refine anyL_take [] (i := 36) (v := ?_) rfl (by kernel_rfl) (by kernel_rfl) (by kernel_rfl) (fun _ _ _ h => h) (by kernel_rfl) (by kernel_rfl) (fun _ _ => and_congr Iff.rfl (imp_congr (getD_set_iff (by decide)) Iff.rfl)) (Or.inl ⟨by rfl, fun V hV => ?_⟩) (by assumption) ?_
            rotate_left
            · go_simp
              try with_reducible rfl
            try simp only [Act.put, List.getElem_toArray, List.getElem_cons_zero, List.getElem_cons_succ, List.setIfInBounds_toArray, List.set_cons_zero, List.set_cons_succ]
            refine anyL_take [44] (i := 37) (v := ?_) rfl (by kernel_rfl) (by kernel_rfl) (by kernel_rfl) (fun _ _ _ h => h) (by kernel_rfl) (by kernel_rfl) (fun _ _ => and_congr Iff.rfl (imp_congr (getD_set_iff (by decide)) Iff.rfl)) (Or.inl ⟨by rfl, fun V hV => ?_⟩) (by assumption) ?_
            rotate_left
            · obtain ⟨l, hn, hV⟩ := hV; have ⟨c0, c1, c2, c3⟩ := hV.2 (hn 44 (by simp)); go_simp
              try with_reducible rfl
            try simp only [Act.put, List.getElem_toArray, List.getElem_cons_zero, List.getElem_cons_succ, List.setIfInBounds_toArray, List.set_cons_zero, List.set_cons_succ]
            refine anyL_take [] (i := 38) (v := ?_) rfl (by kernel_rfl) (by kernel_rfl) (by kernel_rfl) (fun _ _ _ h => h) (by kernel_rfl) (by kernel_rfl) (fun _ _ => and_congr Iff.rfl (imp_congr (getD_set_iff (by decide)) Iff.rfl)) (Or.inl ⟨by rfl, fun V hV => ?_⟩) (by assumption) ?_
            rotate_left
            · go_simp
              try with_reducible rfl
            try simp only [Act.put, List.getElem_toArray, List.getElem_cons_zero, List.getElem_cons_succ, List.setIfInBounds_toArray, List.set_cons_zero, List.set_cons_succ]
            refine anyL_take [] (i := 39) (v := ?_) rfl (by kernel_rfl) (by kernel_rfl) (by kernel_rfl) (fun _ _ _ h => h) (by kernel_rfl) (by kernel_rfl) (fun _ _ => and_congr Iff.rfl (imp_congr (getD_set_iff (by decide)) Iff.rfl)) (Or.inl ⟨by rfl, fun V hV => ?_⟩) (by assumption) ?_
            rotate_left
            · obtain ⟨l, hn, hV⟩ := hV; have ⟨r1, r2, r3, r4, r5, r6⟩ := HWR.out; go_simp
              try with_reducible rfl
            try simp only [Act.put, List.getElem_toArray, List.getElem_cons_zero, List.getElem_cons_succ, List.setIfInBounds_toArray, List.set_cons_zero, List.set_cons_succ]
            refine anyL_take [] (i := 40) (v := ?_) rfl (by kernel_rfl) (by kernel_rfl) (by kernel_rfl) (fun _ _ _ h => h) (by kernel_rfl) (by kernel_rfl) (fun _ _ => and_congr Iff.rfl (imp_congr (getD_set_iff (by decide)) Iff.rfl)) (Or.inl ⟨by rfl, fun V hV => ?_⟩) (by assumption) ?_
            rotate_left
            · go_simp
              try with_reducible rfl
            try simp only [Act.put, List.getElem_toArray, List.getElem_cons_zero, List.getElem_cons_succ, List.setIfInBounds_toArray, List.set_cons_zero, List.set_cons_succ]
            refine anyL_take [] (i := 41) (v := ?_) rfl (by kernel_rfl) (by kernel_rfl) (by kernel_rfl) (fun _ _ _ h => h) (by kernel_rfl) (by kernel_rfl) (fun _ _ => and_congr Iff.rfl (imp_congr (getD_set_iff (by decide)) Iff.rfl)) (Or.inl ⟨by rfl, fun V hV => ?_⟩) (by assumption) ?_
            rotate_left
            · go_simp
              try with_reducible rfl
            try simp only [Act.put, List.getElem_toArray, List.getElem_cons_zero, List.getElem_cons_succ, List.setIfInBounds_toArray, List.set_cons_zero, List.set_cons_succ]
            refine anyL_take [] (i := 42) (v := ?_) rfl (by kernel_rfl) (by kernel_rfl) (by kernel_rfl) (fun _ _ _ h => h) (by kernel_rfl) (by kernel_rfl) (fun _ _ => and_congr Iff.rfl (imp_congr (getD_set_iff (by decide)) Iff.rfl)) (Or.inl ⟨by rfl, fun V hV => ?_⟩) (by assumption) ?_
            rotate_left
            · go_simp
              try with_reducible rfl
            try simp only [Act.put, List.getElem_toArray, List.getElem_cons_zero, List.getElem_cons_succ, List.setIfInBounds_toArray, List.set_cons_zero, List.set_cons_succ]
            refine anyL_take [] (i := 43) (v := ?_) rfl (by kernel_rfl) (by kernel_rfl) (by kernel_rfl) (fun _ _ _ h => h) (by kernel_rfl) (by kernel_rfl) (fun _ _ => and_congr Iff.rfl (imp_congr (getD_set_iff (by decide)) Iff.rfl)) (Or.inl ⟨by rfl, fun V hV => ?_⟩) (by assumption) ?_
            rotate_left
            · go_simp
              try with_reducible rfl
            try simp only [Act.put, List.getElem_toArray, List.getElem_cons_zero, List.getElem_cons_succ, List.setIfInBounds_toArray, List.set_cons_zero, List.set_cons_succ]
            refine anyL_one (i := 44) (o := _) (by kernel_rfl) rfl (fun K hK => ?_)
            have ⟨c0, c1, c2, c3⟩ := HCU.out
            have k0 := HFU.out (o1 + j * 7); have k1 := HFU.out (o1 + j * 7 + 1)
            have HC2 : Hid (((u0.setCell ⟨g1, o1 + j * 7, none⟩ (.int .i64 (if lw < ck.x.lo then ck.x.lo - lw else 0))).setCell ⟨g1, o1 + j * 7 + 1, none⟩ (.int .i64 (if ck.x.hi + hw < s.wide - 1 then ck.x.hi + hw else s.wide - 1))).cell? ⟨g1, o1 + j * 7 + 2, none⟩ = some (.int .i64 ck.y.lo) ∧ ((u0.setCell ⟨g1, o1 + j * 7, none⟩ (.int .i64 (if lw < ck.x.lo then ck.x.lo - lw else 0))).setCell ⟨g1, o1 + j * 7 + 1, none⟩ (.int .i64 (if ck.x.hi + hw < s.wide - 1 then ck.x.hi + hw else s.wide - 1))).cell? ⟨g1, o1 + j * 7 + 3, none⟩ = some (.int .i64 ck.y.hi)) := hid ⟨by rw [World.cell?_setCell_other _ _ _ _ (by simp), World.cell?_setCell_other _ _ _ _ (by simp)]; exact c2, by rw [World.cell?_setCell_other _ _ _ _ (by simp), World.cell?_setCell_other _ _ _ _ (by simp)]; exact c3⟩
            have HF2 : Hid (∀ k, ((u0.setCell ⟨g1, o1 + j * 7, none⟩ (.int .i64 (if lw < ck.x.lo then ck.x.lo - lw else 0))).setCell ⟨g1, o1 + j * 7 + 1, none⟩ (.int .i64 (if ck.x.hi + hw < s.wide - 1 then ck.x.hi + hw else s.wide - 1))).frozen? ⟨g1, k, none⟩ = false) := hid (fun k => by rw [World.frozen?_setCell, World.frozen?_setCell]; exact HFU.out k)
            have HSW := hid (hS.1.1.step' ((Below.setCell (Below.refl _ _) (p := ⟨g1, o1 + j * 7, none⟩) HG1.out.1 (.int .i64 (if lw < ck.x.lo then ck.x.lo - lw else 0))).setCell (p := ⟨g1, o1 + j * 7 + 1, none⟩) HG1.out.1 (.int .i64 (if ck.x.hi + hw < s.wide - 1 then ck.x.hi + hw else s.wide - 1))))
            have HSX := hid ((hS.1.2.other (b' := g1) (k' := o1 + j * 7) HG1.out.2.symm (.int .i64 (if lw < ck.x.lo then ck.x.lo - lw else 0))).other (b' := g1) (k' := o1 + j * 7 + 1) HG1.out.2.symm (.int .i64 (if ck.x.hi + hw < s.wide - 1 then ck.x.hi + hw else s.wide - 1)))
            clear hS
            go_simp
            clear k0 k1 c0 c1 c2 c3
            obtain ⟨u1, hu1⟩ : ∃ V, ((u0.setCell ⟨g1, o1 + j * 7, none⟩ (.int .i64 (if lw < ck.x.lo then ck.x.lo - lw else 0))).setCell ⟨g1, o1 + j * 7 + 1, none⟩ (.int .i64 (if ck.x.hi + hw < s.wide - 1 then ck.x.hi + hw else s.wide - 1))) = V := ⟨_, rfl⟩
            rw [hu1] at HC2 HF2 HSW HSX ⊢
            have HU1 := hid hu1
            clear hu1
            refine hK.out _ _ (⟨⟨HSW.out, HSX.out⟩, fun h => absurd h (by decide)⟩) (fun hS => ?_)
            clear hK K
            try simp only [List.setIfInBounds_toArray, List.set_cons_zero, List.set_cons_succ]
            refine anyL_take [] (i := 45) (v := ?_) rfl (by kernel_rfl) (by kernel_rfl) (by kernel_rfl) (fun _ _ _ h => h) (by kernel_rfl) (by kernel_rfl) (fun _ _ => and_congr Iff.rfl (imp_congr (getD_set_iff (by decide)) Iff.rfl)) (Or.inl ⟨by rfl, fun V hV => ?_⟩) (by assumption) ?_
            rotate_left
            · go_simp
              try with_reducible rfl
            try simp only [Act.put, List.getElem_toArray, List.getElem_cons_zero, List.getElem_cons_succ, List.setIfInBounds_toArray, List.set_cons_zero, List.set_cons_succ]
            refine anyL_take [] (i := 46) (v := ?_) rfl (by kernel_rfl) (by kernel_rfl) (by kernel_rfl) (fun _ _ _ h => h) (by kernel_rfl) (by kernel_rfl) (fun _ _ => and_congr Iff.rfl (imp_congr (getD_set_iff (by decide)) Iff.rfl)) (Or.inl ⟨by rfl, fun V hV => ?_⟩) (by assumption) ?_
            rotate_left
            · go_simp
              try with_reducible rfl
            try simp only [Act.put, List.getElem_toArray, List.getElem_cons_zero, List.getElem_cons_succ, List.setIfInBounds_toArray, List.set_cons_zero, List.set_cons_succ]
            refine anyL_one (i := 47) (o := _) (by kernel_rfl) rfl (fun K hK => ?_)
            have ⟨c2, c3⟩ := HC2.out
            have k0 := HF2.out (o1 + j * 7 + 2); have k1 := HF2.out (o1 + j * 7 + 3)
            have HSW := hid (hS.1.1.step' ((Below.setCell (Below.refl _ _) (p := ⟨g1, o1 + j * 7 + 2, none⟩) HG1.out.1 (.int .i64 (if hw < ck.y.lo then ck.y.lo - hw else 0))).setCell (p := ⟨g1, o1 + j * 7 + 3, none⟩) HG1.out.1 (.int .i64 (if ck.y.hi + lw < s.high - 1 then ck.y.hi + lw else s.high - 1))))
            have HSX := hid ((hS.1.2.other (b' := g1) (k' := o1 + j * 7 + 2) HG1.out.2.symm (.int .i64 (if hw < ck.y.lo then ck.y.lo - hw else 0))).other (b' := g1) (k' := o1 + j * 7 + 3) HG1.out.2.symm (.int .i64 (if ck.y.hi + lw < s.high - 1 then ck.y.hi + lw else s.high - 1)))
            clear hS
            go_simp
            clear k0 k1 c2 c3
            obtain ⟨u2, hu2⟩ : ∃ V, ((u1.setCell ⟨g1, o1 + j * 7 + 2, none⟩ (.int .i64 (if hw < ck.y.lo then ck.y.lo - hw else 0))).setCell ⟨g1, o1 + j * 7 + 3, none⟩ (.int .i64 (if ck.y.hi + lw < s.high - 1 then ck.y.hi + lw else s.high - 1))) = V := ⟨_, rfl⟩
            rw [hu2] at HSW HSX ⊢
            rw [← HU1.out] at hu2
            have HU2 := hid hu2
            clear hu2
            refine hK.out _ _ (⟨⟨HSW.out, HSX.out⟩, fun h => absurd h (by decide)⟩) (fun hS => ?_)
            clear hK K
            try simp only [List.setIfInBounds_toArray, List.set_cons_zero, List.set_cons_succ]
            refine anyL_done (by kernel_rfl) ?_ _
            clear hS HU1 HC2 HF2
            have hkc := HKC.out
            rw [cardB, Bool.and_eq_true, rectB, Bool.and_eq_true, Rng.of_iff, Rng.of_iff] at hkc
            have hdl2 := HDL.out
            have i1 : (if lw < ck.x.lo then ck.x.lo - lw else 0) ≤ ck.x.lo := by split <;> omega
            have i2 : ck.x.hi ≤ (if ck.x.hi + hw < s.wide - 1 then ck.x.hi + hw else s.wide - 1) := by split <;> omega
            have i3 : (if hw < ck.y.lo then ck.y.lo - hw else 0) ≤ ck.y.lo := by split <;> omega
            have i4 : ck.y.hi ≤ (if ck.y.hi + lw < s.high - 1 then ck.y.hi + lw else s.high - 1) := by split <;> omega
            generalize (if lw < ck.x.lo then ck.x.lo - lw else 0) = xl at i1 HU2 ⊢
            generalize (if ck.x.hi + hw < s.wide - 1 then ck.x.hi + hw else s.wide - 1) = xh at i2 HU2 ⊢
            generalize (if hw < ck.y.lo then ck.y.lo - hw else 0) = yl at i3 HU2 ⊢
            generalize (if ck.y.hi + lw < s.high - 1 then ck.y.hi + lw else s.high - 1) = yh at i4 HU2 ⊢
            have HI4 := hid (And.intro i1 (And.intro i2 (And.intro i3 i4)))
            clear i1 i2 i3 i4 hkc hdl2
            go_wp2_with fail
            go_meet
            case rel =>
              refine ⟨⟨s.wide, s.high, s.fall, s.a, s.b, s.half, s.peak, s.cards.set j (⟨⟨xl, xh⟩, ⟨yl, yh⟩, ck.hail, ck.size⟩ : Crd)⟩, some ⟨g1, o1, none⟩, m, d, wid_card HCJ.out rfl rfl HI4.out.1 HI4.out.2.1 HI4.out.2.2.1 HI4.out.2.2.2, HSX.out, ?_, HSW.out⟩
              rw [← HU2.out]; exact crds_set (d := (⟨⟨xl, xh⟩, ⟨yl, yh⟩, ck.hail, ck.size⟩ : Crd)) HKU.out HCJ.out rfl rfl
    case rest =>
      as_aux_lemma =>
        obtain ⟨x, q, m, d, hwid, hx, hkx, hw⟩ := hcut
        have HWI := hid hwid; have HX := hid hx; have HKX := hid hkx; have H20 := hid hw
        clear hwid hx hkx hw HX2 HO2 HW2
        generalize wc = w20 at HX HKX H20 ⊢
        have e0 := (HX.out.2 0 (.int .i64 x.wide) rfl).1; have e1 := (HX.out.2 1 (.int .i64 x.high) rfl).1; have e2 := (HX.out.2 2 (.int .i64 x.fall) rfl).1; have e3 := (HX.out.2 3 (.int .i64 x.a.lo) rfl).1; have e4 := (HX.out.2 4 (.int .i64 x.a.hi) rfl).1; have e5 := (HX.out.2 5 (.int .i64 x.b.lo) rfl).1; have e6 := (HX.out.2 6 (.int .i64 x.b.hi) rfl).1; have e7 := (HX.out.2 7 (.int .i64 x.half.lo) rfl).1; have e8 := (HX.out.2 8 (.int .i64 x.half.hi) rfl).1; have e9 := (HX.out.2 9 (.int .i64 x.peak.lo) rfl).1; have e10 := (HX.out.2 10 (.int .i64 x.peak.hi) rfl).1; have e11 := (HX.out.2 11 (.slice q m d) rfl).1
        go_wp2_with fail
        (with_reducible refine (ready_any x q m d _ HKX.out).mono ?_)
        rintro e w21 ⟨rfl, hb⟩
        have H21 := hid (H20.out.step hb)
        replace HX := hid (HX.out.below hb)
        replace HKX := hid (HKX.out.below hb)
        clear hb e0 e1 e2 e3 e4 e5 e6 e7 e8 e9 e10 e11
        cases hr2 : readyB x
        · clear hr2
          go_wp2_with fail
          refine (awake_any _).mono ?_
          rintro e w99 ⟨rfl, hb⟩
          go_wp2_with fail
          go_ret
          exact ⟨rfl, H21.out.below.trans (hb.mono H21.out.below.size)⟩
        · have HOX := hid (ready_iff.1 hr2).1
          clear hr2
          have hm6 : m ≤ 6 := by have := HKX.out.1; have := HOX.out.n6; omega
          have HN : Hid (n ≤ 1000) := hid (by omega)
          have HMX : Hid (m ≤ 1000) := hid (by omega)
          have e0 := (StoAt.of H21.out.cell).c0; have e1 := (StoAt.of H21.out.cell).c1; have e2 := (StoAt.of H21.out.cell).c2; have e3 := (StoAt.of H21.out.cell).c3; have e4 := (StoAt.of H21.out.cell).c4; have e5 := (StoAt.of H21.out.cell).c5; have e6 := (StoAt.of H21.out.cell).c6; have e7 := (StoAt.of H21.out.cell).c7; have e8 := (StoAt.of H21.out.cell).c8; have e9 := (StoAt.of H21.out.cell).c9; have e10 := (StoAt.of H21.out.cell).c10; have e11 := (StoAt.of H21.out.cell).c11
          go_wp2_with fail
          (with_reducible refine (box_any s p n c wv _ HOK.out HWV.out.1 HWV.out.2).mono ?_)
          rintro e w22 ⟨rfl, hb⟩
          have H22 := hid (H21.out.step hb)
          replace HX := hid (HX.out.below hb)
          replace HKX := hid (HKX.out.below hb)
          clear e0 e1 e2 e3 e4 e5 e6 e7 e8 e9 e10 e11 hb
          obtain ⟨bx, hbx⟩ : ∃ v, boxX s wv = v := ⟨_, rfl⟩
          obtain ⟨bY, hby⟩ : ∃ v, boxY s wv = v := ⟨_, rfl⟩
          rw [hbx, hby] at HRC
          rw [hbx, hby]
          clear hbx hby
          obtain ⟨w23, hw23⟩ : ∃ V, (w22.alloc (.cells #[.int .i64 bx.lo, .int .i64 bx.hi, .int .i64 bY.lo, .int .i64 bY.hi] 64)) = V := ⟨_, rfl⟩
          have H23 : Hid (Boxed1 w #[.int .i64 s.wide, .int .i64 s.high, .int .i64 s.fall, .int .i64 s.a.lo, .int .i64 s.a.hi, .int .i64 s.b.lo, .int .i64 s.b.hi, .int .i64 s.half.lo, .int .i64 s.half.hi, .int .i64 s.peak.lo, .int .i64 s.peak.hi, .slice p n c] 26 w23) := by show Boxed1 w #[.int .i64 s.wide, .int .i64 s.high, .int .i64 s.fall, .int .i64 s.a.lo, .int .i64 s.a.hi, .int .i64 s.b.lo, .int .i64 s.b.hi, .int .i64 s.half.lo, .int .i64 s.half.hi, .int .i64 s.peak.lo, .int .i64 s.peak.hi, .slice p n c] 26 w23; rw [← hw23]; exact H22.out.alloc _
          have HR : Hid (BoxIs w22.heap.size #[.int .i64 bx.lo, .int .i64 bx.hi, .int .i64 bY.lo, .int .i64 bY.hi] w23) := by show BoxIs _ _ _; rw [← hw23]; exact BoxIs.start _ _ _
          have HBB : Hid (Below w22.heap.size w22 w23) := hid (by rw [← hw23]; exact (Below.refl _ _).alloc (Nat.le_refl _) _)
          replace HX := hid (HX.out.below HBB.out)
          replace HKX := hid (HKX.out.below HBB.out)
          go_upto_region 20 with fail
          clear hw23 HBB 
          have HRB : Hid ((0 ≤ bx.lo ∧ bx.lo ≤ bx.hi ∧ bx.hi ≤ s.wide - 1) ∧ (0 ≤ bY.lo ∧ bY.lo ≤ bY.hi ∧ bY.hi ≤ s.high - 1)) := hid (by have h := HRC.out; rw [rectB, Bool.and_eq_true, Rng.of_iff, Rng.of_iff] at h; exact h)
          have HF0 := hid (fault_iff.2 HOK.out); have HFX := hid (fault_iff.2 HOX.out)
          obtain ⟨X, hX⟩ : ∃ X, shortL (leaveF s) s.cards.length = some X := ⟨_, leaveR_law HOK.out⟩
          obtain ⟨Y, hY⟩ : ∃ Y, shortL (leaveF x) x.cards.length = some Y := ⟨_, leaveR_law HOX.out⟩
          have HLV := hid hX; have HLW := hid hY; have HLL := hid (wid_leave HWI.out HOK.out HOX.out hX hY)
          clear hX hY
          have e0 := (StoAt.of H23.out.cell).c0; have e1 := (StoAt.of H23.out.cell).c1; have e2 := (StoAt.of H23.out.cell).c2; have e3 := (StoAt.of H23.out.cell).c3; have e4 := (StoAt.of H23.out.cell).c4; have e5 := (StoAt.of H23.out.cell).c5; have e6 := (StoAt.of H23.out.cell).c6; have e7 := (StoAt.of H23.out.cell).c7; have e8 := (StoAt.of H23.out.cell).c8; have e9 := (StoAt.of H23.out.cell).c9; have e10 := (StoAt.of H23.out.cell).c10; have e11 := (StoAt.of H23.out.cell).c11
          go_wp2_with fail
          refine (storm20_any s p n c _ (HC.out.below H23.out.below) HN.out).mono ?_
          rintro e w24 ⟨q1, m1, d1, rfl, hc, hb⟩
          have H24 := hid (H23.out.step hb)
          replace HX := hid (HX.out.below hb)
          replace HKX := hid (HKX.out.below hb)
          replace HR := hid (HR.out.below hb)
          have HK1 := hid hc
          clear e0 e1 e2 e3 e4 e5 e6 e7 e8 e9 e10 e11 hb hc
          go_wp2_with fail
          refine (leave_any s q1 m1 d1 _ HK1.out).mono ?_
          rintro e w25 ⟨ql, kl, dl, rfl, _, hx, hb⟩
          have H25 := hid (H24.out.step hb)
          replace HX := hid (HX.out.below hb)
          replace HKX := hid (HKX.out.below hb)
          replace HR := hid (HR.out.below hb)
          replace HK1 := hid (HK1.out.below hb)
          have HKL := hid (hx HF0.out _ HLV.out).1
          rw [HF0.out]
          clear hb hx
          have e0 := (HX.out.2 0 (.int .i64 x.wide) rfl).1; have e1 := (HX.out.2 1 (.int .i64 x.high) rfl).1; have e2 := (HX.out.2 2 (.int .i64 x.fall) rfl).1; have e3 := (HX.out.2 3 (.int .i64 x.a.lo) rfl).1; have e4 := (HX.out.2 4 (.int .i64 x.a.hi) rfl).1; have e5 := (HX.out.2 5 (.int .i64 x.b.lo) rfl).1; have e6 := (HX.out.2 6 (.int .i64 x.b.hi) rfl).1; have e7 := (HX.out.2 7 (.int .i64 x.half.lo) rfl).1; have e8 := (HX.out.2 8 (.int .i64 x.half.hi) rfl).1; have e9 := (HX.out.2 9 (.int .i64 x.peak.lo) rfl).1; have e10 := (HX.out.2 10 (.int .i64 x.peak.hi) rfl).1; have e11 := (HX.out.2 11 (.slice q m d) rfl).1
          go_wp2_with fail
          refine (storm20_any x q m d _ HKX.out HMX.out).mono ?_
          rintro e w26 ⟨q2, m2, d2, rfl, hc, hb⟩
          have H26 := hid (H25.out.step hb)
          replace HX := hid (HX.out.below hb)
          replace HKX := hid (HKX.out.below hb)
          replace HR := hid (HR.out.below hb)
          have HK2 := hid hc
          clear hb hc e0 e1 e2 e3 e4 e5 e6 e7 e8 e9 e10 e11
          go_wp2_with fail
          refine (leave_any x q2 m2 d2 _ HK2.out).mono ?_
          rintro e w27 ⟨qm, km, dm, rfl, _, hx, hb⟩
          have H27 := hid (H26.out.step hb)
          replace HX := hid (HX.out.below hb)
          replace HKX := hid (HKX.out.below hb)
          replace HR := hid (HR.out.below hb)
          replace HK2 := hid (HK2.out.below hb)
          have HKM := hid (hx HFX.out _ HLW.out).1
          rw [HFX.out]
          clear hb hx
          have hlen := HLL.out
          rw [← HKL.out, ← HKM.out] at hlen
          have HLEN := hid hlen
          clear hlen
          obtain ⟨E1, hE1⟩ : ∃ v, sureE s true = v := ⟨_, rfl⟩
          have HE1 := hid hE1
          have HE1S : Hid (E1 = if truthL s = [] then 11 else 0) := hid (by rw [← hE1, sureE, if_pos HF0.out, if_pos rfl])
          clear hE1
          obtain ⟨E2, hE2⟩ : ∃ v, sureE x true = v := ⟨_, rfl⟩
          have HE2 := hid hE2
          have HE2S : Hid (E2 = if truthL x = [] then 11 else 0) := hid (by rw [← hE2, sureE, if_pos HFX.out, if_pos rfl])
          clear hE2
          obtain ⟨aS, haS⟩ : ∃ v, boundS s = v := ⟨_, rfl⟩
          have HaS := hid haS
          clear haS
          obtain ⟨bS, hbS⟩ : ∃ v, boundS x = v := ⟨_, rfl⟩
          have HbS := hid hbS
          clear hbS
          have e0 := (StoAt.of H27.out.cell).c0; have e1 := (StoAt.of H27.out.cell).c1; have e2 := (StoAt.of H27.out.cell).c2; have e3 := (StoAt.of H27.out.cell).c3; have e4 := (StoAt.of H27.out.cell).c4; have e5 := (StoAt.of H27.out.cell).c5; have e6 := (StoAt.of H27.out.cell).c6; have e7 := (StoAt.of H27.out.cell).c7; have e8 := (StoAt.of H27.out.cell).c8; have e9 := (StoAt.of H27.out.cell).c9; have e10 := (StoAt.of H27.out.cell).c10; have e11 := (StoAt.of H27.out.cell).c11
          go_wp2_with fail
          refine (storm20_any s p n c _ (HC.out.below H27.out.below) HN.out).mono ?_
          rintro e w28 ⟨q3, m3, d3, rfl, hc, hb⟩
          have H28 := hid (H27.out.step hb)
          replace HX := hid (HX.out.below hb)
          replace HKX := hid (HKX.out.below hb)
          replace HR := hid (HR.out.below hb)
          have HK3 := hid hc
          clear e0 e1 e2 e3 e4 e5 e6 e7 e8 e9 e10 e11 hb hc
          go_wp2_with fail
          refine (bounds_any s q3 m3 d3 _ HK3.out).mono ?_
          rintro e w29 ⟨qa, ma, da, rfl, _, hb⟩
          have H29 := hid (H28.out.step hb)
          replace HX := hid (HX.out.below hb)
          replace HKX := hid (HKX.out.below hb)
          replace HR := hid (HR.out.below hb)
          replace HK3 := hid (HK3.out.below hb)
          rw [HaS.out, HE1.out]
          clear hb
          obtain ⟨w30, hw30⟩ : ∃ V, (w29.alloc (.cells #[.int .i64 aS.wide, .int .i64 aS.high, .int .i64 aS.fall, .int .i64 aS.a.lo, .int .i64 aS.a.hi, .int .i64 aS.b.lo, .int .i64 aS.b.hi, .int .i64 aS.half.lo, .int .i64 aS.half.hi, .int .i64 aS.peak.lo, .int .i64 aS.peak.hi, .slice qa ma da] 35)) = V := ⟨_, rfl⟩
          have H30 : Hid (Boxed1 w #[.int .i64 s.wide, .int .i64 s.high, .int .i64 s.fall, .int .i64 s.a.lo, .int .i64 s.a.hi, .int .i64 s.b.lo, .int .i64 s.b.hi, .int .i64 s.half.lo, .int .i64 s.half.hi, .int .i64 s.peak.lo, .int .i64 s.peak.hi, .slice p n c] 26 w30) := by show Boxed1 w #[.int .i64 s.wide, .int .i64 s.high, .int .i64 s.fall, .int .i64 s.a.lo, .int .i64 s.a.hi, .int .i64 s.b.lo, .int .i64 s.b.hi, .int .i64 s.half.lo, .int .i64 s.half.hi, .int .i64 s.peak.lo, .int .i64 s.peak.hi, .slice p n c] 26 w30; rw [← hw30]; exact H29.out.alloc _
          have HA : Hid (BoxIs w29.heap.size #[.int .i64 aS.wide, .int .i64 aS.high, .int .i64 aS.fall, .int .i64 aS.a.lo, .int .i64 aS.a.hi, .int .i64 aS.b.lo, .int .i64 aS.b.hi, .int .i64 aS.half.lo, .int .i64 aS.half.hi, .int .i64 aS.peak.lo, .int .i64 aS.peak.hi, .slice qa ma da] w30) := by show BoxIs _ _ _; rw [← hw30]; exact BoxIs.start _ _ _
          have HBB : Hid (Below w29.heap.size w29 w30) := hid (by rw [← hw30]; exact (Below.refl _ _).alloc (Nat.le_refl _) _)
          replace HX := hid (HX.out.below HBB.out)
          replace HKX := hid (HKX.out.below HBB.out)
          replace HR := hid (HR.out.below HBB.out)
          go_upto_region 23 with fail
          clear hw30 HBB 
          have e0 := (HX.out.2 0 (.int .i64 x.wide) rfl).1; have e1 := (HX.out.2 1 (.int .i64 x.high) rfl).1; have e2 := (HX.out.2 2 (.int .i64 x.fall) rfl).1; have e3 := (HX.out.2 3 (.int .i64 x.a.lo) rfl).1; have e4 := (HX.out.2 4 (.int .i64 x.a.hi) rfl).1; have e5 := (HX.out.2 5 (.int .i64 x.b.lo) rfl).1; have e6 := (HX.out.2 6 (.int .i64 x.b.hi) rfl).1; have e7 := (HX.out.2 7 (.int .i64 x.half.lo) rfl).1; have e8 := (HX.out.2 8 (.int .i64 x.half.hi) rfl).1; have e9 := (HX.out.2 9 (.int .i64 x.peak.lo) rfl).1; have e10 := (HX.out.2 10 (.int .i64 x.peak.hi) rfl).1; have e11 := (HX.out.2 11 (.slice q m d) rfl).1
          go_wp2_with fail
          refine (storm20_any x q m d _ HKX.out HMX.out).mono ?_
          rintro e w31 ⟨q4, m4, d4, rfl, hc, hb⟩
          have H31 := hid (H30.out.step hb)
          replace HX := hid (HX.out.below hb)
          replace HKX := hid (HKX.out.below hb)
          replace HR := hid (HR.out.below hb)
          replace HA := hid (HA.out.below hb)
          have HK4 := hid hc
          clear hb hc e0 e1 e2 e3 e4 e5 e6 e7 e8 e9 e10 e11
          go_wp2_with fail
          refine (bounds_any x q4 m4 d4 _ HK4.out).mono ?_
          rintro e w32 ⟨qb, mb, db, rfl, _, hb⟩
          have H32 := hid (H31.out.step hb)
          replace HX := hid (HX.out.below hb)
          replace HKX := hid (HKX.out.below hb)
          replace HR := hid (HR.out.below hb)
          replace HA := hid (HA.out.below hb)
          replace HK4 := hid (HK4.out.below hb)
          rw [HbS.out, HE2.out]
          clear hb
          obtain ⟨w33, hw33⟩ : ∃ V, (w32.alloc (.cells #[.int .i64 bS.wide, .int .i64 bS.high, .int .i64 bS.fall, .int .i64 bS.a.lo, .int .i64 bS.a.hi, .int .i64 bS.b.lo, .int .i64 bS.b.hi, .int .i64 bS.half.lo, .int .i64 bS.half.hi, .int .i64 bS.peak.lo, .int .i64 bS.peak.hi, .slice qb mb db] 35)) = V := ⟨_, rfl⟩
          have H33 : Hid (Boxed1 w #[.int .i64 s.wide, .int .i64 s.high, .int .i64 s.fall, .int .i64 s.a.lo, .int .i64 s.a.hi, .int .i64 s.b.lo, .int .i64 s.b.hi, .int .i64 s.half.lo, .int .i64 s.half.hi, .int .i64 s.peak.lo, .int .i64 s.peak.hi, .slice p n c] 26 w33) := by show Boxed1 w #[.int .i64 s.wide, .int .i64 s.high, .int .i64 s.fall, .int .i64 s.a.lo, .int .i64 s.a.hi, .int .i64 s.b.lo, .int .i64 s.b.hi, .int .i64 s.half.lo, .int .i64 s.half.hi, .int .i64 s.peak.lo, .int .i64 s.peak.hi, .slice p n c] 26 w33; rw [← hw33]; exact H32.out.alloc _
          have HB : Hid (BoxIs w32.heap.size #[.int .i64 bS.wide, .int .i64 bS.high, .int .i64 bS.fall, .int .i64 bS.a.lo, .int .i64 bS.a.hi, .int .i64 bS.b.lo, .int .i64 bS.b.hi, .int .i64 bS.half.lo, .int .i64 bS.half.hi, .int .i64 bS.peak.lo, .int .i64 bS.peak.hi, .slice qb mb db] w33) := by show BoxIs _ _ _; rw [← hw33]; exact BoxIs.start _ _ _
          have HBB : Hid (Below w32.heap.size w32 w33) := hid (by rw [← hw33]; exact (Below.refl _ _).alloc (Nat.le_refl _) _)
          replace HX := hid (HX.out.below HBB.out)
          replace HKX := hid (HKX.out.below HBB.out)
          replace HR := hid (HR.out.below HBB.out)
          replace HA := hid (HA.out.below HBB.out)
          go_upto_region 24 with fail
          clear hw33 HBB 
          have hc0 := HLEN.out
          have hc1 : ¬ (kl : Int) < km := by omega
          have hc1b : ¬ kl < km := by omega
          by_cases hL : truthL s = []
          · have hE1 : E1 = 11 := by rw [HE1S.out, if_pos hL]
            rw [hE1]
            go_wp2_with fail
            refine (awake_any _).mono ?_
            rintro e w99 ⟨rfl, hb⟩
            go_wp2_with fail
            go_ret
            exact ⟨rfl, H33.out.below.trans (hb.mono H33.out.below.size)⟩
          · have hE1 : E1 = 0 := by rw [HE1S.out, if_neg hL]
            have hE2 : E2 = 0 := by rw [HE2S.out, if_neg (wid_ne HWI.out hL)]
            rw [hE2, hE1]
            have HNB : Hid (narrowB aS bS = true) := hid (by rw [← HbS.out, ← HaS.out, boundS, boundS, if_pos (HE2.out.trans hE2), if_pos (HE1.out.trans hE1)]; exact wid_narrow HWI.out hL)
            obtain ⟨V1, hV1⟩ : ∃ v, verdV s bx bY = v := ⟨_, rfl⟩
            obtain ⟨V2, hV2⟩ : ∃ v, verdV x bx bY = v := ⟨_, rfl⟩
            have hs1 : sureE s (rectB s bx bY) = 0 := by rw [HRC.out, HE1.out, hE1]
            have hs2 : sureE x (rectB x bx bY) = 0 := by rw [wid_rect HWI.out, HRC.out, HE2.out, hE2]
            have HVV : Hid (V2 = 3 ∨ V1 = V2) := hid (by rw [← hV1, ← hV2, verdV, verdV, if_pos hs1, if_pos hs2]; exact wid_verd HWI.out hL HRB.out.1.2.1 HRB.out.2.2.1)
            have HV1 := hid hV1; have HV2 := hid hV2; have HS1 := hid hs1; have HS2 := hid hs2
            clear hV1 hV2 hs1 hs2 hE1 hE2 hL
            go_upto_region 28 with fail
            clear hc0 hc1 hc1b
            refine wp_region_held_drew (S := fun V => Boxed1 w #[.int .i64 s.wide, .int .i64 s.high, .int .i64 s.fall, .int .i64 s.a.lo, .int .i64 s.a.hi, .int .i64 s.b.lo, .int .i64 s.b.hi, .int .i64 s.half.lo, .int .i64 s.half.hi, .int .i64 s.peak.lo, .int .i64 s.peak.hi, .slice p n c] 26 V ∧ Below w33.heap.size w33 V) (by kernel_rfl) (⟨H33.out.drew, (Below.refl _ _).drew⟩) (fun hS => ?_)
            simp only [List.size_toArray, List.length_cons, List.length_nil, Nat.reduceAdd, Array.replicate_succ, Array.replicate_zero, List.push_toArray, List.nil_append, List.cons_append]
            refine wpAnyH_take (i := 0) (v := ?_) rfl (by kernel_rfl) (by kernel_rfl) (by kernel_rfl) (fun _ _ _ h => h) (Or.inl ⟨by rfl, fun V hV => ?_⟩) (by assumption) ?_
            rotate_left
            · have e0 := (StoAt.of hV.1.cell).c0; have e1 := (StoAt.of hV.1.cell).c1; have e2 := (StoAt.of hV.1.cell).c2; have e3 := (StoAt.of hV.1.cell).c3; have e4 := (StoAt.of hV.1.cell).c4; have e5 := (StoAt.of hV.1.cell).c5; have e6 := (StoAt.of hV.1.cell).c6; have e7 := (StoAt.of hV.1.cell).c7; have e8 := (StoAt.of hV.1.cell).c8; have e9 := (StoAt.of hV.1.cell).c9; have e10 := (StoAt.of hV.1.cell).c10; have e11 := (StoAt.of hV.1.cell).c11; go_simp
              try with_reducible rfl
            try simp only [Act.put, List.getElem_toArray, List.getElem_cons_zero, List.setIfInBounds_toArray, List.set_cons_zero, List.set_cons_succ]
            refine wpAnyH_take (i := 2) (v := ?_) rfl (by kernel_rfl) (by kernel_rfl) (by kernel_rfl) (fun _ _ _ h => h) (Or.inl ⟨by rfl, fun V hV => ?_⟩) (by assumption) ?_
            rotate_left
            · have hX := HR.out.below hV.2; have d0 := (hX.2 0 (.int .i64 bx.lo) rfl).1; have d1 := (hX.2 1 (.int .i64 bx.hi) rfl).1; have d2 := (hX.2 2 (.int .i64 bY.lo) rfl).1; have d3 := (hX.2 3 (.int .i64 bY.hi) rfl).1; go_simp
              try with_reducible rfl
            try simp only [Act.put, List.getElem_toArray, List.getElem_cons_zero, List.getElem_cons_succ, List.setIfInBounds_toArray, List.set_cons_zero, List.set_cons_succ]
            refine wpAnyH_ready (rs := [1]) (by kernel_rfl) (by simp) ?_
            refine AllReadyH.cons (o := _) rfl (fun K hK => ?_) AllReadyH.nil
            go_simp
            refine (storm20_any s p n c _ (HC.out.below hS.1.below) HN.out).mono ?_
            rintro e s1 ⟨q8, m8, d8, rfl, hc8, hb⟩
            have HQ8 := hid hc8
            clear hc8
            refine hK.out _ _ (⟨hS.1.step hb, hS.2.trans (hb.mono hS.2.size)⟩) (fun hS => ?_)
            clear hK K
            try simp only [List.setIfInBounds_toArray, List.set_cons_zero, List.set_cons_succ]
            refine wpAnyH_ready (rs := [3]) (by kernel_rfl) (by simp) ?_
            refine AllReadyH.cons (o := _) rfl (fun K hK => ?_) AllReadyH.nil
            go_simp
            (with_reducible refine (rect40_any bx bY _).mono ?_)
            rintro e s3 ⟨rfl, hb⟩
            replace HQ8 := hid (HQ8.out.below hb)
            refine hK.out _ _ (⟨hS.1.step hb, hS.2.trans (hb.mono hS.2.size)⟩) (fun hS => ?_)
            clear hK K
            try simp only [List.setIfInBounds_toArray, List.set_cons_zero, List.set_cons_succ]
            refine wpAnyH_ready (rs := [4]) (by kernel_rfl) (by simp) ?_
            refine AllReadyH.cons (o := _) rfl (fun K hK => ?_) AllReadyH.nil
            go_simp
            refine (verdict_any s q8 m8 d8 bx bY _ HQ8.out).mono ?_
            rintro e w34 ⟨rfl, hb⟩
            rw [HV1.out, HS1.out]
            refine hK.out _ _ (⟨hS.1.step hb, hS.2.trans (hb.mono hS.2.size)⟩) (fun hS => ?_)
            clear hK K
            try simp only [List.setIfInBounds_toArray, List.set_cons_zero, List.set_cons_succ]
            refine wpAnyH_take (i := 5) (v := ?_) rfl (by kernel_rfl) (by kernel_rfl) (by kernel_rfl) (fun _ _ _ h => h) (Or.inl ⟨by rfl, fun V hV => ?_⟩) (by assumption) ?_
            rotate_left
            · go_simp
              try with_reducible rfl
            try simp only [Act.put, List.getElem_toArray, List.getElem_cons_zero, List.getElem_cons_succ, List.setIfInBounds_toArray, List.set_cons_zero, List.set_cons_succ]
            refine wpAnyH_take (i := 6) (v := ?_) rfl (by kernel_rfl) (by kernel_rfl) (by kernel_rfl) (fun _ _ _ h => h) (Or.inl ⟨by rfl, fun V hV => ?_⟩) (by assumption) ?_
            rotate_left
            · go_simp
              try with_reducible rfl
            try simp only [Act.put, List.getElem_toArray, List.getElem_cons_zero, List.getElem_cons_succ, List.setIfInBounds_toArray, List.set_cons_zero, List.set_cons_succ]
            refine wpAnyH_take (i := 7) (v := ?_) rfl (by kernel_rfl) (by kernel_rfl) (by kernel_rfl) (fun _ _ _ h => h) (Or.inl ⟨by rfl, fun V hV => ?_⟩) (by assumption) ?_
            rotate_left
            · go_simp
              try with_reducible rfl
            try simp only [Act.put, List.getElem_toArray, List.getElem_cons_zero, List.getElem_cons_succ, List.setIfInBounds_toArray, List.set_cons_zero, List.set_cons_succ]
            refine wpAnyH_take (i := 8) (v := ?_) rfl (by kernel_rfl) (by kernel_rfl) (by kernel_rfl) (fun _ _ _ h => h) (Or.inl ⟨by rfl, fun V hV => ?_⟩) (by assumption) ?_
            rotate_left
            · go_simp
              try with_reducible rfl
            try simp only [Act.put, List.getElem_toArray, List.getElem_cons_zero, List.getElem_cons_succ, List.setIfInBounds_toArray, List.set_cons_zero, List.set_cons_succ]
            refine wpAnyH_take (i := 9) (v := ?_) rfl (by kernel_rfl) (by kernel_rfl) (by kernel_rfl) (fun _ _ _ h => h) (Or.inl ⟨by rfl, fun V hV => ?_⟩) (by assumption) ?_
            rotate_left
            · go_simp
              try with_reducible rfl
            try simp only [Act.put, List.getElem_toArray, List.getElem_cons_zero, List.getElem_cons_succ, List.setIfInBounds_toArray, List.set_cons_zero, List.set_cons_succ]
            refine wpAnyH_done (by kernel_rfl) ?_ _
            have H34 := hid hS.1
            replace HX := hid (HX.out.below hS.2)
            replace HKX := hid (HKX.out.below hS.2)
            replace HR := hid (HR.out.below hS.2)
            replace HA := hid (HA.out.below hS.2)
            replace HB := hid (HB.out.below hS.2)
            clear hS
            go_upto_region 29 with fail
            refine wp_region_held_drew (S := fun V => Boxed1 w #[.int .i64 s.wide, .int .i64 s.high, .int .i64 s.fall, .int .i64 s.a.lo, .int .i64 s.a.hi, .int .i64 s.b.lo, .int .i64 s.b.hi, .int .i64 s.half.lo, .int .i64 s.half.hi, .int .i64 s.peak.lo, .int .i64 s.peak.hi, .slice p n c] 26 V ∧ Below w34.heap.size w34 V) (by kernel_rfl) (⟨H34.out.drew, (Below.refl _ _).drew⟩) (fun hS => ?_)
            simp only [List.size_toArray, List.length_cons, List.length_nil, Nat.reduceAdd, Array.replicate_succ, Array.replicate_zero, List.push_toArray, List.nil_append, List.cons_append]
            refine wpAnyH_take (i := 0) (v := ?_) rfl (by kernel_rfl) (by kernel_rfl) (by kernel_rfl) (fun _ _ _ h => h) (Or.inl ⟨by rfl, fun V hV => ?_⟩) (by assumption) ?_
            rotate_left
            · have hX := HX.out.below hV.2; have e0 := (hX.2 0 (.int .i64 x.wide) rfl).1; have e1 := (hX.2 1 (.int .i64 x.high) rfl).1; have e2 := (hX.2 2 (.int .i64 x.fall) rfl).1; have e3 := (hX.2 3 (.int .i64 x.a.lo) rfl).1; have e4 := (hX.2 4 (.int .i64 x.a.hi) rfl).1; have e5 := (hX.2 5 (.int .i64 x.b.lo) rfl).1; have e6 := (hX.2 6 (.int .i64 x.b.hi) rfl).1; have e7 := (hX.2 7 (.int .i64 x.half.lo) rfl).1; have e8 := (hX.2 8 (.int .i64 x.half.hi) rfl).1; have e9 := (hX.2 9 (.int .i64 x.peak.lo) rfl).1; have e10 := (hX.2 10 (.int .i64 x.peak.hi) rfl).1; have e11 := (hX.2 11 (.slice q m d) rfl).1; go_simp
              try with_reducible rfl
            try simp only [Act.put, List.getElem_toArray, List.getElem_cons_zero, List.setIfInBounds_toArray, List.set_cons_zero, List.set_cons_succ]
            refine wpAnyH_take (i := 2) (v := ?_) rfl (by kernel_rfl) (by kernel_rfl) (by kernel_rfl) (fun _ _ _ h => h) (Or.inl ⟨by rfl, fun V hV => ?_⟩) (by assumption) ?_
            rotate_left
            · have hX := HR.out.below hV.2; have d0 := (hX.2 0 (.int .i64 bx.lo) rfl).1; have d1 := (hX.2 1 (.int .i64 bx.hi) rfl).1; have d2 := (hX.2 2 (.int .i64 bY.lo) rfl).1; have d3 := (hX.2 3 (.int .i64 bY.hi) rfl).1; go_simp
              try with_reducible rfl
            try simp only [Act.put, List.getElem_toArray, List.getElem_cons_zero, List.getElem_cons_succ, List.setIfInBounds_toArray, List.set_cons_zero, List.set_cons_succ]
            refine wpAnyH_ready (rs := [1]) (by kernel_rfl) (by simp) ?_
            refine AllReadyH.cons (o := _) rfl (fun K hK => ?_) AllReadyH.nil
            go_simp
            refine (storm20_any x q m d _ (HKX.out.below hS.2) HMX.out).mono ?_
            rintro e s1 ⟨q8, m8, d8, rfl, hc8, hb⟩
            have HQ8 := hid hc8
            clear hc8
            refine hK.out _ _ (⟨hS.1.step hb, hS.2.trans (hb.mono hS.2.size)⟩) (fun hS => ?_)
            clear hK K
            try simp only [List.setIfInBounds_toArray, List.set_cons_zero, List.set_cons_succ]
            refine wpAnyH_ready (rs := [3]) (by kernel_rfl) (by simp) ?_
            refine AllReadyH.cons (o := _) rfl (fun K hK => ?_) AllReadyH.nil
            go_simp
            (with_reducible refine (rect40_any bx bY _).mono ?_)
            rintro e s3 ⟨rfl, hb⟩
            replace HQ8 := hid (HQ8.out.below hb)
            refine hK.out _ _ (⟨hS.1.step hb, hS.2.trans (hb.mono hS.2.size)⟩) (fun hS => ?_)
            clear hK K
            try simp only [List.setIfInBounds_toArray, List.set_cons_zero, List.set_cons_succ]
            refine wpAnyH_ready (rs := [4]) (by kernel_rfl) (by simp) ?_
            refine AllReadyH.cons (o := _) rfl (fun K hK => ?_) AllReadyH.nil
            go_simp
            refine (verdict_any x q8 m8 d8 bx bY _ HQ8.out).mono ?_
            rintro e w35 ⟨rfl, hb⟩
            rw [HV2.out, HS2.out]
            refine hK.out _ _ (⟨hS.1.step hb, hS.2.trans (hb.mono hS.2.size)⟩) (fun hS => ?_)
            clear hK K
            try simp only [List.setIfInBounds_toArray, List.set_cons_zero, List.set_cons_succ]
            refine wpAnyH_take (i := 5) (v := ?_) rfl (by kernel_rfl) (by kernel_rfl) (by kernel_rfl) (fun _ _ _ h => h) (Or.inl ⟨by rfl, fun V hV => ?_⟩) (by assumption) ?_
            rotate_left
            · go_simp
              try with_reducible rfl
            try simp only [Act.put, List.getElem_toArray, List.getElem_cons_zero, List.getElem_cons_succ, List.setIfInBounds_toArray, List.set_cons_zero, List.set_cons_succ]
            refine wpAnyH_take (i := 6) (v := ?_) rfl (by kernel_rfl) (by kernel_rfl) (by kernel_rfl) (fun _ _ _ h => h) (Or.inl ⟨by rfl, fun V hV => ?_⟩) (by assumption) ?_
            rotate_left
            · go_simp
              try with_reducible rfl
            try simp only [Act.put, List.getElem_toArray, List.getElem_cons_zero, List.getElem_cons_succ, List.setIfInBounds_toArray, List.set_cons_zero, List.set_cons_succ]
            refine wpAnyH_take (i := 7) (v := ?_) rfl (by kernel_rfl) (by kernel_rfl) (by kernel_rfl) (fun _ _ _ h => h) (Or.inl ⟨by rfl, fun V hV => ?_⟩) (by assumption) ?_
            rotate_left
            · go_simp
              try with_reducible rfl
            try simp only [Act.put, List.getElem_toArray, List.getElem_cons_zero, List.getElem_cons_succ, List.setIfInBounds_toArray, List.set_cons_zero, List.set_cons_succ]
            refine wpAnyH_take (i := 8) (v := ?_) rfl (by kernel_rfl) (by kernel_rfl) (by kernel_rfl) (fun _ _ _ h => h) (Or.inl ⟨by rfl, fun V hV => ?_⟩) (by assumption) ?_
            rotate_left
            · go_simp
              try with_reducible rfl
            try simp only [Act.put, List.getElem_toArray, List.getElem_cons_zero, List.getElem_cons_succ, List.setIfInBounds_toArray, List.set_cons_zero, List.set_cons_succ]
            refine wpAnyH_take (i := 9) (v := ?_) rfl (by kernel_rfl) (by kernel_rfl) (by kernel_rfl) (fun _ _ _ h => h) (Or.inl ⟨by rfl, fun V hV => ?_⟩) (by assumption) ?_
            rotate_left
            · go_simp
              try with_reducible rfl
            try simp only [Act.put, List.getElem_toArray, List.getElem_cons_zero, List.getElem_cons_succ, List.setIfInBounds_toArray, List.set_cons_zero, List.set_cons_succ]
            refine wpAnyH_done (by kernel_rfl) ?_ _
            have H35 := hid hS.1
            replace HX := hid (HX.out.below hS.2)
            replace HKX := hid (HKX.out.below hS.2)
            replace HR := hid (HR.out.below hS.2)
            replace HA := hid (HA.out.below hS.2)
            replace HB := hid (HB.out.below hS.2)
            clear hS
            have e0 := (HA.out.2 0 (.int .i64 aS.wide) rfl).1; have e1 := (HA.out.2 1 (.int .i64 aS.high) rfl).1; have e2 := (HA.out.2 2 (.int .i64 aS.fall) rfl).1; have e3 := (HA.out.2 3 (.int .i64 aS.a.lo) rfl).1; have e4 := (HA.out.2 4 (.int .i64 aS.a.hi) rfl).1; have e5 := (HA.out.2 5 (.int .i64 aS.b.lo) rfl).1; have e6 := (HA.out.2 6 (.int .i64 aS.b.hi) rfl).1; have e7 := (HA.out.2 7 (.int .i64 aS.half.lo) rfl).1; have e8 := (HA.out.2 8 (.int .i64 aS.half.hi) rfl).1; have e9 := (HA.out.2 9 (.int .i64 aS.peak.lo) rfl).1; have e10 := (HA.out.2 10 (.int .i64 aS.peak.hi) rfl).1; have e11 := (HA.out.2 11 (.slice qa ma da) rfl).1
            have f0 := (HB.out.2 0 (.int .i64 bS.wide) rfl).1; have f1 := (HB.out.2 1 (.int .i64 bS.high) rfl).1; have f2 := (HB.out.2 2 (.int .i64 bS.fall) rfl).1; have f3 := (HB.out.2 3 (.int .i64 bS.a.lo) rfl).1; have f4 := (HB.out.2 4 (.int .i64 bS.a.hi) rfl).1; have f5 := (HB.out.2 5 (.int .i64 bS.b.lo) rfl).1; have f6 := (HB.out.2 6 (.int .i64 bS.b.hi) rfl).1; have f7 := (HB.out.2 7 (.int .i64 bS.half.lo) rfl).1; have f8 := (HB.out.2 8 (.int .i64 bS.half.hi) rfl).1; have f9 := (HB.out.2 9 (.int .i64 bS.peak.lo) rfl).1; have f10 := (HB.out.2 10 (.int .i64 bS.peak.hi) rfl).1; have f11 := (HB.out.2 11 (.slice qb mb db) rfl).1
            go_wp2_with fail
            refine (narrow_any aS bS qa ma da qb mb db _).mono ?_
            rintro e w36 ⟨rfl, hb⟩
            have H36 := hid (H35.out.step hb)
            replace HX := hid (HX.out.below hb)
            replace HKX := hid (HKX.out.below hb)
            replace HR := hid (HR.out.below hb)
            replace HA := hid (HA.out.below hb)
            replace HB := hid (HB.out.below hb)
            rw [HNB.out]
            clear hb e0 f0 e1 f1 e2 f2 e3 f3 e4 f4 e5 f5 e6 f6 e7 f7 e8 f8 e9 f9 e10 f10 e11 f11
            have hvv : (V2 == 3) = true ∨ (V2 == 3) = false ∧ (V2 == V1) = true := by
              rcases HVV.out with h | h
              · left; simpa using h
              · by_cases h3 : V2 = 3
                · left; simpa using h3
                · right; exact ⟨by simpa using h3, by simp [h]⟩
            rcases hvv with h3 | ⟨h3, h4⟩
            all_goals go_wp2_with fail
            all_goals refine (awake_any _).mono ?_
            all_goals rintro e w99 ⟨rfl, hb⟩
            all_goals go_wp2_with fail
            all_goals go_ret
            all_goals exact ⟨rfl, H36.out.below.trans (hb.mono H36.out.below.size)⟩
end Go.Proofs.Ytfnefkenheglhaa
