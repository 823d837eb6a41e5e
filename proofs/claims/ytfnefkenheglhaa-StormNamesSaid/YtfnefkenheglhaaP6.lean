/- Package storm: all truths of a storm. No condition. -/
import Derived.Test.YtfnefkenheglhaaP5
import Derived.Test.YtfnefkenheglhaaRow
import Derived.ChangeKeysEq
namespace Go.Proofs.Ytfnefkenheglhaa
open Go.RowKit
attribute [local go_sem] Oper.semAt_some

theorem eq6 (a0 a1 a2 a3 a4 a5 : Bool) (w : World) : (Op.equalIn 10000 135 (.agg #[.bool a0, .bool a1, .bool a2, .bool a3, .bool a4, .bool a5]) (.agg #[.bool true, .bool true, .bool true, .bool true, .bool true, .bool true])).run Try.prog w = .ok (a0 && (a1 && (a2 && (a3 && (a4 && a5))))) w := by
  cases a0 <;> cases a1 <;> cases a2 <;> cases a3 <;> cases a4 <;> cases a5 <;> kernel_rfl
def all6 (f : Nat → Bool) : Bool := f 0 && (f 1 && (f 2 && (f 3 && (f 4 && f 5))))
theorem all6_iff {f : Nat → Bool} : all6 f = true ↔ ∀ i, i < 6 → f i = true := by
  simp only [all6, Bool.and_eq_true]
  constructor
  · rintro ⟨h0, h1, h2, h3, h4, h5⟩ i hi
    match i, hi with
    | 0, _ => exact h0
    | 1, _ => exact h1
    | 2, _ => exact h2
    | 3, _ => exact h3
    | 4, _ => exact h4
    | 5, _ => exact h5
  · intro h; exact ⟨h 0 (by omega), h 1 (by omega), h 2 (by omega), h 3 (by omega), h 4 (by omega), h 5 (by omega)⟩
theorem all6_right {s : Sto} (h : s.cards.length ≤ 6) (t : Tru) : all6 (rightF s t) = s.cards.all (fitsB s t) := by
  rw [Bool.eq_iff_iff, all6_iff, List.all_eq_true]
  constructor
  · intro ha c hc
    obtain ⟨i, hi, rfl⟩ := List.getElem_of_mem hc
    have := ha i (by omega)
    rwa [rightF, List.getElem?_eq_getElem hi] at this
  · intro ha i _
    unfold rightF
    cases hx : s.cards[i]? with
    | none => rfl
    | some c => exact ha c (List.mem_of_getElem? hx)
theorem poss_len {s : Sto} (ok : OkS s) : (possL s).length ≤ 2000 := by
  rw [← (all_perm ok.pos).length_eq, allN, List.length_map, List.length_range]
  have := ok.many; omega
theorem encT_size (t : Tru) : (encT t).size = #[6].size := rfl

/-- append(out, l...) inside a fence. -/
theorem appendIn_rows {F : Fence} {N : Nat} {α : Type} {enc : α → List Value} {z : Nat} (hz : ∀ c, (enc c).length = z) (h0 : 0 < z) (hone : ∀ c, ∀ u ∈ enc c, u.oneCell' = true) (sl T : TypeId) (zero : Value) (bytes : Nat) (hby : bytes ≤ 1000)
    (hinfo : (Try.prog.info? T).map (fun i => (i.zero, i.size, i.bytes)) = some (some zero, z, bytes)) (hzero : zero.cells.size = z) (hund : Try.prog.underlying sl = some (.slice T))
    {ops : Array Oper} {rest : List Oper} {o : Oper} {a : Act} {w : World} {Q : Exit → Act → World → Prop} (hgd : o.guard = none) (s x : Operand)
    (ho : o.op = .call { callee := .builtin .append, args := #[s, x], argTypes := #[sl, sl] })
    (base : Nat) (v : Value) (l : List α) (ad : Addr) (m c : Nat) (y : List α) (hown : OwnRows enc z T w base v l) (hs : a.eval s = v) (hx : a.eval x = .slice (some ad) m c) (hy : RowsAt enc z w (some ad) m y)
    (hlen : l.length ≤ 1000000) (hm : m ≤ 1000000) (hbase : base ≤ w.heap.size)
    (h : ∀ v' w', OwnRows enc z T w' base v' (l ++ y) → Below base w w' → (∀ k, k < w.heap.size → some k ≠ v.ownBlock → w'.heap[k]? = w.heap[k]?) → wpListIn F N Try.prog ops Q rest (a.put o.dst v') w') :
    wpListIn F N Try.prog ops Q (o :: rest) a w := by
  obtain ⟨i0, hi, hz0, hz1, hz2⟩ := info_parts hinfo
  refine wpListIn_append_own w hgd s x sl ho base T i0 zero z bytes hund hi hz0 hz1 hz2 hzero h0 v l.length _ hs hown ad m c (y.flatMap enc) hx (by rw [flat_len hz, hy.1]) ?_ ?_ (by unfold maxLen; omega) ?_ hbase ?_
  · intro j u hj
    obtain ⟨k, hk, hu⟩ := flat_get' hz h0 y j u hj
    obtain ⟨b, off, e, hlt, q⟩ := hy.2 (j / z) k hk
    cases e
    have e : (⟨b, off, none⟩ : Addr).add j = ⟨b, off + j / z * z + j % z, none⟩ := by
      have e : (⟨b, off, none⟩ : Addr).add j = ⟨b, off + j, none⟩ := by unfold Addr.add; split <;> simp_all
      rw [e]
      have := Nat.div_add_mod' j z
      rw [show off + j = off + j / z * z + j % z by omega]
    rw [e]
    exact q _ _ hu
  · intro u hu
    obtain ⟨k, _, hk⟩ := List.mem_flatMap.1 hu
    exact hone k u hk
  · have : (l.length + m) * bytes ≤ 2000000 * 1000 := Nat.mul_le_mul (by omega) hby
    omega
  · intro v' w' h1 h2 _
    refine h v' w' ?_ ?_ fun k hk hne => h2.block k hk hne
    · unfold OwnRows
      rw [List.length_append, ← hy.1, List.flatMap_append]
      exact h1
    · refine (Below.refl base w).grown h2 hbase ?_
      intro k hk
      exact (World.ownsRow.lt hown k hk).1

/-- What is known all the way: the storm at work and a map that knows. -/
def WK (s : Sto) (p : Option Addr) (n c b bm nn : Nat) (w W : World) : Prop := Near (fun k => k = bm) w W ∧ WorkAt W b s p n c bm ∧ ∃ M, MapV W 94 bm nn M ∧ Knows s M
theorem WK.right {s : Sto} {p : Option Addr} {n c b bm nn : Nat} {w W W' : World} {M' : Value → Option Value} (h : WK s p n c b bm nn w W) (hn : Near (fun k => k = bm) W W') (hm : MapV W' 94 bm (nn + 1) M') (hk : Knows s M') (hb : b ≠ bm) : WK s p n c b bm (nn + 1) w W' :=
  ⟨h.1.trans hn, h.2.1.near hn hb, M', hm, hk⟩
theorem WK.near {S : Nat → Prop} {s : Sto} {p : Option Addr} {n c b bm nn : Nat} {w W W' : World} (h : WK s p n c b bm nn w W) (hn : Near S W W') (hS : ∀ k, S k → w.heap.size ≤ k) (hb : b < w.heap.size) (hm : bm < w.heap.size) : WK s p n c b bm nn w W' :=
  ⟨h.1.trans' hn (fun i hi hT => by have := hS i hT; omega), h.2.1.near hn (fun hh => by have := hS b hh; omega), by
    obtain ⟨M, h1, h2⟩ := h.2.2
    exact ⟨M, h1.kept (hn.block bm h1.lt (fun hh => by have := hS bm hh; omega)), h2⟩⟩
/-- All truths come back. -/
def TruthsPost (s : Sto) (p : Option Addr) (n c b bm : Nat) (w : World) : Ending → World → Prop := fun e w' => ∃ v, e = .returned v ∧ OwnRows cellsT 4 94 w' w.heap.size v (truthL s) ∧ ∃ nn, nn ≤ 2000 ∧ WK s p n c b bm nn w w'
def fOk (s : Sto) (t : Tru) : Bool := s.cards.all (fitsB s t)

set_option maxRecDepth 40000 in
set_option maxHeartbeats 8000000 in
theorem truthsP_any (s : Sto) (p : Option Addr) (n c b bm : Nat) (w : World) (hw : WK s p n c b bm 0 w w) (hcs : CrdsAt w p n s.cards) (hpb : ∀ a, p = some a → 0 < n → a.block ≠ bm) (ok : OkS s) (hb : b < w.heap.size) (hm : bm < w.heap.size) (hbm : b ≠ bm) :
    Calls Try.prog 110 #[.pointer (some ⟨b, 0, none⟩)] w (TruthsPost s p n c b bm w) := by
  have HW := hid hw
  have HOK := hid ok
  have HCR := hid (fun W (hW : Near (fun k => k = bm) w W) => hcs.kept hW.size (fun a ha hn0 hlt => hW.block _ hlt (hpb a ha hn0)))
  have HLEN := hid (poss_len ok)
  have h6 : s.cards.length ≤ 6 := ok.n6
  have HG := hid (fun W bv (hI : ItAt W bv b s p n c) => possible_gives s p n c bv b ok.ranges ok.h12 W 21 hI)
  clear hw hcs hpb ok
  obtain ⟨W0, hW0⟩ : ∃ W, (w.alloc (.cells #[.pointer (some ⟨b, 0, none⟩)] 120)).alloc (.cells #[.slice none 0 0] 121) = W := ⟨_, rfl⟩
  have HB0 : Hid (Below w.heap.size w W0) := by show Below _ _ _; rw [← hW0]; exact ((Below.refl _ _).alloc (Nat.le_refl _) _).alloc (by simp) _
  have HP0 : Hid (BoxIs w.heap.size #[.pointer (some ⟨b, 0, none⟩)] W0) := by show BoxIs _ _ _; rw [← hW0]; exact (BoxIs.start _ _ _).below ((Below.refl _ _).alloc (Nat.le_refl _) _)
  have HX0 : Hid (BoxIs (w.heap.size + 1) #[.slice none 0 0] W0) := by
    show BoxIs _ _ _
    have h := BoxIs.start (w.alloc (.cells #[.pointer (some ⟨b, 0, none⟩)] 120)) #[.slice none 0 0] 121
    rw [World.size_alloc, hW0] at h; exact h
  have HZ0 : Hid (W0.heap.size = w.heap.size + 2) := by show _ = _; rw [← hW0]; simp
  refine (callsIn_wide (n := 22)).1 ?_
  refine callsIn_of_wp_marks Try.func110 rfl trivial ?_ rfl
  simp only [Try.ntmps110, List.size_toArray, List.length_cons, List.length_nil, Nat.reduceAdd, Nat.reduceSub, Array.replicate_succ, Array.replicate_zero, List.push_toArray, List.append_toArray, List.nil_append, List.cons_append]
  have k0 := (HP0.out.2 0 _ rfl).1
  gi_wp2
  refine ⟨trivial, ?_⟩
  gi_at_call 82
  refine (callsIn_wide.2 (possibleF_any _ _)).mono ?_
  rintro e w5 ⟨rfl, rfl⟩
  clear k0 hW0
  gi_wp2
  obtain ⟨W5, hW5⟩ : ∃ W, W0.alloc (.cells #[.pointer (some ⟨b, 0, none⟩)] 120) = W := ⟨_, rfl⟩
  have hI5 : ItAt W5 W0.heap.size b s p n c := by
    rw [← hW5]
    exact ⟨cell_box W0 _ 120 0 _ rfl, (HW.out.2.1.sto.below HB0.out).below ((Below.refl _ _).alloc (Nat.le_refl _) _)⟩
  have hb5 : Below w.heap.size w W5 := by rw [← hW5]; exact HB0.out.alloc (by have := HZ0.out; omega) _
  have hb05 : Below W0.heap.size W0 W5 := by rw [← hW5]; exact (Below.refl _ _).alloc (Nat.le_refl _) _
  have hz5 : W5.heap.size = w.heap.size + 3 := by rw [← hW5, World.size_alloc, HZ0.out]
  have hz0 := HZ0.out
  rw [hW5]
  clear hW5
  refine wpIn_rangeFunc_near3 rfl (by omega) (gf := 115) (lb := #[.pointer (some ⟨W0.heap.size, 0, none⟩)]) rfl trivial (enters_of Try.func115 (by kernel_rfl) rfl) encT_size
    (HG.out W5 W0.heap.size hI5) (Below.refl _ _) (fun i hi => by omega) (fun i => i = bm ∨ i = w.heap.size + 1 ∨ w.heap.size + 5 ≤ i) (fun i hi => ⟨by omega, by omega⟩)
    (fun pre W => WK s p n c b bm pre.length w W ∧ BoxIs w.heap.size #[.pointer (some ⟨b, 0, none⟩)] W ∧ ∃ v, BoxIs (w.heap.size + 1) #[v] W ∧ OwnRows cellsT 4 94 W (w.heap.size + 5) v (pre.filter (fOk s)))
    (fun pre W => False)
    (fun pre W1 W2 h hn => ⟨h.1.near hn (by omega) hb hm, h.2.1.near hn (by omega), by
      obtain ⟨v, h1, h2⟩ := h.2.2
      exact ⟨v, h1.near hn (by omega), h2.block fun g hg => hn.block g (h2.lt g hg).2 (by have := (h2.lt g hg).1; omega)⟩⟩)
    (fun pre W1 W2 h hn => h) ?h0 ?round ?done ?stop
  case h0 =>
    exact ⟨HW.out.near (Near.of_below hb5 (S := fun k => w.heap.size ≤ k) (fun i _ h => h)) (fun k hk => hk) hb hm, HP0.out.below hb05, .slice none 0 0, HX0.out.below hb05, ownRows_nil _ _ _ _ _⟩
  case round =>
    rintro pre x rest W hall hsz ⟨hwk, hP, v, hX, hO⟩
    have htr : truB s x = true := mem_poss.1 (by rw [hall]; simp)
    have hpl : pre.length < 2000 := by have h1 := HLEN.out; rw [hall] at h1; simp at h1; omega
    have hfl : (pre.filter (fOk s)).length ≤ 1000000 := Nat.le_trans (List.length_filter_le _ _) (by omega)
    have HWK := hid hwk; have HP := hid hP; have HX := hid hX; have HO := hid hO; have HSZ := hid hsz
    have HZ5 : Hid (W5.heap.size = w.heap.size + 3) := hz5
    have HTR := hid htr; have HPL := hid hpl; have HFL := hid hfl
    clear hall hwk hP hX hO hsz hz5 hz0 hb5 hb05 hI5 htr hpl hfl
    simp only [encT]
    gi_wp2
    refine ⟨(Near.refl _ _).alloc _, fun W2 hn2 => ?_⟩
    have hn3 : Near (fun k => k = W5.heap.size + 1) W W2 := ((Near.refl _ _).alloc _).trans hn2
    have HWK2 : Hid (WK s p n c b bm pre.length w W2) := HWK.out.near hn3 (fun k hk => by have := HZ5.out; omega) hb hm
    have HP2 : Hid (BoxIs w.heap.size #[.pointer (some ⟨b, 0, none⟩)] W2) := HP.out.near hn3 (by have := HZ5.out; omega)
    have HX2 : Hid (BoxIs (w.heap.size + 1) #[v] W2) := HX.out.near hn3 (by have := HZ5.out; omega)
    have HO2 : Hid (OwnRows cellsT 4 94 W2 (w.heap.size + 5) v (pre.filter (fOk s))) := HO.out.block fun g hg => hn3.block g (HO.out.lt g hg).2 (by have := (HO.out.lt g hg).1; have := HZ5.out; omega)
    have HT2 : Hid (TruAt W2 W.heap.size x) := (TruAt.of (cell_box W #[.int .i64 x.a, .int .i64 x.b, .int .i64 x.half, .int .i64 x.peak] 94)).kept (hn2.block W.heap.size (by simp) (by have := HSZ.out; omega))
    have HZ2 : Hid (W.heap.size < W2.heap.size) := Nat.lt_of_lt_of_le (by simp) hn2.size
    clear HWK HP HX HO hn2 hn3
    have p0 := (HP2.out.2 0 _ rfl).1
    have t0 := HT2.out.c0; have t1 := HT2.out.c1; have t2 := HT2.out.c2; have t3 := HT2.out.c3
    gi_wp2
    refine ⟨trivial, ?_⟩
    gi_at_call 83
    obtain ⟨M, hM, hKn⟩ := HWK2.out.2.2
    refine (CallsIn.inRound _ (callsIn_wide.2 (right6_any s p n c x b bm _ M W2 HWK2.out.2.1 (HCR.out _ HWK2.out.1) hM hKn (by have := HPL.out; unfold maxLen; omega) HOK.out HTR.out))).mono ?_
    rintro e W3 ⟨rfl, M', hM', hKn', hn3⟩
    have HWK3 : Hid (WK s p n c b bm (pre.length + 1) w W3) := HWK2.out.right hn3 hM' hKn' hbm
    have HX3 : Hid (BoxIs (w.heap.size + 1) #[v] W3) := HX2.out.near hn3 (by omega)
    have HP3 : Hid (BoxIs w.heap.size #[.pointer (some ⟨b, 0, none⟩)] W3) := HP2.out.near hn3 (by omega)
    have HO3 : Hid (OwnRows cellsT 4 94 W3 (w.heap.size + 5) v (pre.filter (fOk s))) := HO2.out.block fun g hg => hn3.block g (HO2.out.lt g hg).2 (by have := (HO2.out.lt g hg).1; omega)
    have HT3 : Hid (TruAt W3 W.heap.size x) := HT2.out.kept (hn3.block W.heap.size HZ2.out (by have := HSZ.out; have := HZ5.out; omega))
    have HN3 : Hid (Near (fun i => i = bm ∨ i = w.heap.size + 1 ∨ w.heap.size + 5 ≤ i) W2 W3) := hid (hn3.mono fun i _ h => .inl h)
    clear HWK2 HX2 HP2 HO2 HT2 hM hKn hM' hKn' hn3 p0 t0 t1 t2 t3
    unfold B6
    gi_wp2
    refine ⟨trivial, ?_⟩
    gi_at_call 98
    refine (CallsIn.inRound _ (callsIn_wide.2 (every6_any _))).mono ?_
    rintro e W4 ⟨rfl, hb4⟩
    have HWK4 : Hid (WK s p n c b bm (pre.length + 1) w W4) := HWK3.out.near (near_below hb4) (fun _ h => h.elim) hb hm
    have HX4 := hid (HX3.out.below hb4); have HP4 := hid (HP3.out.below hb4); have HO4 := hid (HO3.out.below hb4); have HT4 := hid (HT3.out.below hb4)
    have HN4 : Hid (Near (fun i => i = bm ∨ i = w.heap.size + 1 ∨ w.heap.size + 5 ≤ i) W2 W4) := hid (HN3.out.trans (Near.of_below hb4 (fun i h1 h2 => by omega)))
    have HS4 : Hid (w.heap.size + 6 ≤ W4.heap.size) := by have := HN4.out.size; have := HZ2.out; have := HSZ.out; have := HZ5.out; show _ ≤ _; omega
    clear HWK3 HX3 HP3 HO3 HT3 HN3 hb4
    have heq := eq6 (rightF s x 0) (rightF s x 1) (rightF s x 2) (rightF s x 3) (rightF s x 4) (rightF s x 5) W4
    have h6r := all6_right h6 x
    have HLENE : Hid ((pre ++ [x]).length = pre.length + 1) := by show _ = _; simp
    cases hf : s.cards.all (fitsB s x)
    · rw [hf, all6] at h6r
      rw [h6r] at heq
      have HF := hid hf
      clear hf h6r
      gi_wp2
      refine ⟨HN4.out, by rw [HLENE.out]; exact HWK4.out, HP4.out, v, HX4.out, ?_⟩
      rw [List.filter_append]
      simpa [fOk, HF.out] using HO4.out
    · rw [hf, all6] at h6r
      rw [h6r] at heq
      have HF := hid hf
      clear hf h6r
      have x0 := (HX4.out.2 0 _ rfl).1
      have t0 := HT4.out.c0; have t1 := HT4.out.c1; have t2 := HT4.out.c2; have t3 := HT4.out.c3
      have ho := HO4.out.below ((Below.refl _ _).alloc (Nat.le_refl _) (.cells #[.int .i64 x.a, .int .i64 x.b, .int .i64 x.half, .int .i64 x.peak] 94))
      have hfl := HFL.out
      have hs4 := HS4.out
      gi_wp2_with (gi_at_builtin; refine appendIn_rows cellsT_len (by decide) cellsT_one 121 94 _ 32 (by decide) Try.info94 rfl Try.und121 (by rfl) _ _ (by rfl) (w.heap.size + 5) _ _ _ 1 1 [x] ho (by rfl) (by rfl) (tru_lit x 94) hfl (by omega) (by simp; omega) ?_; intro v' w' h1 h2 h3; obtain ⟨p', c', e', _⟩ := OwnRows.slice cellsT_len h1; subst e'; have hbx := (HX4.out.below ((Below.refl _ _).alloc (Nat.le_refl _) (.cells #[.int .i64 x.a, .int .i64 x.b, .int .i64 x.half, .int .i64 x.peak] 94))).keep h2 (by omega); have x5 := (hbx.2 0 _ rfl).1; have x6 := (hbx.2 0 _ rfl).2)
      have hnb := (((Near.refl (fun i => i = w.heap.size + 1 ∨ w.heap.size + 5 ≤ i) W4).alloc (.cells #[.int .i64 x.a, .int .i64 x.b, .int .i64 x.half, .int .i64 x.peak] 94)).trans (Near.of_below h2 (fun i _ hi => .inr hi))).setCell (p := ⟨w.heap.size + 1, 0, none⟩) (fun _ => .inl rfl) (.slice p' ((pre.filter (fOk s)).length + 1) c')
      have e : (pre.filter (fOk s) ++ [x]).length = (pre.filter (fOk s)).length + 1 := by simp
      rw [e] at h1
      refine ⟨HN4.out.trans (hnb.mono fun i _ h => .inr h), by rw [HLENE.out]; exact HWK4.out.near hnb (fun k hk => by omega) hb hm, HP4.out.near hnb (by omega), _, hbx.put (j := 0) _, ?_⟩
      rw [List.filter_append]
      have h5 := h1.block (w' := w'.setCell ⟨w.heap.size + 1, 0, none⟩ (.slice p' ((pre.filter (fOk s)).length + 1) c')) fun g hg => Below.heap_setCell _ _ _ _ (by have := (h1.lt g hg).1; show g ≠ w.heap.size + 1; omega)
      simpa [fOk, HF.out] using h5
  case done =>
    rintro W ⟨hwk, hP, v, hX, hO⟩ hK hsz
    have HWK := hid hwk; have HX := hid hX; have HO := hid hO
    have HZ5 : Hid (W5.heap.size = w.heap.size + 3) := hz5
    have g0 := (HX.out.2 0 _ rfl).1; have g1 := (HX.out.2 0 _ rfl).2
    obtain ⟨p', c', e', _⟩ := OwnRows.slice cellsT_len hO
    subst e'
    clear hwk hP hX hO hz5 hz0 hb5 hb05 hI5 hsz
    gi_wp2
    have hz5 := HZ5.out
    obtain ⟨U, hU⟩ : ∃ U, Value.slice p' (List.filter (fOk s) (possL s)).length c' = U := ⟨_, rfl⟩
    have hO := HO.out
    rw [hU] at hO
    rw [hU]
    have hK' : (W.setCell ⟨w.heap.size + 1, 0, none⟩ U).heap[W5.heap.size]? = some (.deferred (some [])) := (Below.heap_setCell _ _ _ _ (by show _ ≠ w.heap.size + 1; omega)).trans hK
    refine ⟨by simp, .inl ⟨_, _, rfl, run_takeDeferred hK', ?_⟩⟩
    have hX2 : BoxIs (w.heap.size + 1) #[U] (W.setCell ⟨w.heap.size + 1, 0, none⟩ U) := HX.out.put (j := 0) _
    have hN2 := ((Near.refl (fun i => i = w.heap.size + 1 ∨ i = W5.heap.size) W).setCell (p := ⟨w.heap.size + 1, 0, none⟩) (fun _ => .inl rfl) U).trans ((Near.putObj W5.heap.size (.deferred none)).mono fun i _ h => .inr h)
    have hc5 := ((hX2.near (Near.putObj W5.heap.size (.deferred none)) (by omega)).2 0 _ rfl).1
    refine ⟨U, ?_, U, rfl, ?_, (possL s).length, HLEN.out, HWK.out.near hN2 (fun k hk => by omega) hb hm⟩
    · simp [results, Try.f110, go_sem, hc5]
    · have h5 := (hO.block fun g hg => hN2.block g (hO.lt g hg).2 (by have := (hO.lt g hg).1; omega)).mono (base' := w.heap.size) (by omega)
      exact h5
  case stop =>
    intro pre rest W hall hx
    exact hx.elim
end Go.Proofs.Ytfnefkenheglhaa
