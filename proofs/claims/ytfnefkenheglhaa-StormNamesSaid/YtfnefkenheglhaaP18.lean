/- Package storm: the shortest list that is as it must be. No condition. -/
import Derived.Test.YtfnefkenheglhaaP16
import Derived.Laws.EntriesVeiled
import Derived.Deep.AppendLies
namespace Go.Proofs.Ytfnefkenheglhaa
open Go.RowKit

theorem eqnil51 (p : Option Addr) (n c : Nat) (w : World) : (binOp .eql 51 (.slice p n c) (.slice none 0 0)).run Try.prog w = .ok (.bool p.isNone) w := by
  have h : Try.prog.underlying 51 = some (.slice 3) := Try.underlying51
  have := run_equal_slice_nil w 51 3 p n c h
  simp [binOp, go_sem, this]
/-- append(out, l...), l numbers that lie somewhere: at the operation. -/
theorem append_ints {ops : Array Oper} {rest : List Oper} {o : Oper} {a : Act} {w : World} {Q : Exit → Act → World → Prop} (hgd : o.guard = none) (s x : Operand)
    (ho : o.op = .call { callee := .builtin .append, args := #[s, x], argTypes := #[51, 51] })
    (base : Nat) (v : Value) (l : List Int) (ad : Addr) (m c : Nat) (y : List Int) (hown : OwnInts w base v l) (hs : a.eval s = v) (hx : a.eval x = .slice (some ad) m c) (hy : IntsAt w (some ad) m y)
    (hlen : l.length ≤ 1000000) (hm : m ≤ 1000000) (hbase : base ≤ w.heap.size)
    (h : ∀ v' w', OwnInts w' base v' (l ++ y) → Below base w w' → wpList Try.prog ops Q rest (a.put o.dst v') w') :
    wpList Try.prog ops Q (o :: rest) a w := by
  obtain ⟨i0, hi, hz0, hz1, hz2⟩ := info_parts Try.info3
  refine wpList_append_own _ hgd s x 51 ho base 3 i0 (.int .i64 0) 1 8 Try.underlying51 hi hz0 hz1 hz2 rfl (by decide) v l.length _ hs hown
    ad m c (y.map (Value.int .i64)) hx (by rw [List.length_map, hy.1, Nat.mul_one]) ?_ ?_ (by unfold maxLen; omega) (by omega) hbase ?_
  · intro j u hj
    rw [List.getElem?_map] at hj
    obtain ⟨z, hz, rfl⟩ := Option.map_eq_some_iff.1 hj
    have hlt : j < m := by rw [hy.1]; exact (List.getElem?_eq_some_iff.1 hz).1
    obtain ⟨b, off, e, hc⟩ := hy.2 j hlt
    cases e
    have e : (⟨b, off, none⟩ : Addr).add j = ⟨b, off + j, none⟩ := by unfold Addr.add; split <;> simp_all
    rw [e, hc, hz]; rfl
  · intro u hu
    obtain ⟨z, _, rfl⟩ := List.mem_map.1 hu
    simp [Value.oneCell']
  · intro v' w' h1 h2 _
    refine h v' w' ?_ ?_
    · unfold OwnInts
      have : (l ++ y).length = l.length + m := by rw [List.length_append, hy.1]
      rw [this]
      simpa using h1
    · refine (Below.refl base w).grown h2 hbase ?_
      intro k hk
      exact (World.ownsRow.lt hown k hk).1

set_option maxRecDepth 40000 in
set_option maxHeartbeats 8000000 in
theorem clone_any (p : Option Addr) (n c : Nat) (l : List Int) (w : World) (hl : IntsAt w p n l) (hn : n ≤ 1000) :
    Calls Try.prog 121 #[.slice p n c] w (RetInts w l) := by
  have HL := hid hl
  clear hl
  cases p with
  | none =>
    have hn0 : n = 0 := by
      refine Classical.byContradiction fun h => ?_
      obtain ⟨b, off, h1, _⟩ := HL.out.2 0 (by omega)
      cases h1
    have hl0 : l = [] := List.length_eq_zero_iff.1 (by rw [← HL.out.1, hn0])
    subst hn0
    subst hl0
    have heq := fun w => eqnil51 none 0 c w
    go_enter Try.func121, Try.ntmps121
    go_wp2
    go_ret
    exact ⟨_, rfl, ownInts_nil _ _, Below.refl _ _⟩
  | some ad =>
    have heq := fun w => eqnil51 (some ad) n c w
    go_enter Try.func121, Try.ntmps121
    have HOWN : Hid (OwnInts (w.alloc (.cells #[] 3)) w.heap.size (.slice (some ⟨w.heap.size, 0, none⟩) 0 0) []) := World.ownsRow_lit w #[] 0 (Nat.le_refl _) (by decide) rfl
    have HLA := hid (HL.out.alloc (.cells #[] 3))
    go_wp2_with (at_builtin; refine append_ints (by rfl) (.tmp 5) (.tmp 6) (by rfl) w.heap.size _ [] ad n c l HOWN.out (by rfl) (by rfl) HLA.out (by simp) (by omega) (by simp) ?_; intro v' w' ho' hb')
    go_ret
    exact ⟨_, rfl, ho', ((Below.refl _ _).alloc (Nat.le_refl _) _).trans hb'⟩

/-- append(out, y): at a step of a region that draws its order. -/
theorem step_append_int {ops : Array Oper} {o : Oper} {a : Act} {w : World} {K : Act → World → Prop} {Q : Exit → Act → World → Prop} {E : Prop} (hgd : o.guard = none) (s x : Operand)
    (ho : o.op = .call { callee := .builtin .append, args := #[s, x], argTypes := #[51, 51] })
    (base : Nat) (v : Value) (l : List Int) (y : Int) (bx : Nat) (hown : OwnInts w base v l) (hs : a.eval s = v) (hx : a.eval x = .slice (some ⟨bx, 0, none⟩) 1 1) (hc : w.cell? ⟨bx, 0, none⟩ = some (.int .i64 y))
    (hlen : l.length ≤ 1000000) (hbase : base ≤ w.heap.size)
    (h : ∀ g cap w', OwnInts w' base (.slice (some ⟨g, 0, none⟩) (l.length + 1) cap) (l ++ [y]) → Below base w w' → base ≤ g → K (a.put o.dst (.slice (some ⟨g, 0, none⟩) (l.length + 1) cap)) w') :
    if Region.wanted o (yielded ops a.tmps) = true then Oper.wp Try.prog o a w K Q else E := by
  obtain ⟨i0, hi, hz0, hz1, hz2⟩ := info_parts Try.info3
  refine step_append_lies w hgd s x 51 ho base 3 i0 (.int .i64 0) 1 8 Try.underlying51 hi hz0 hz1 hz2 rfl (by decide) v l.length (l.map (Value.int .i64)) hs hown ⟨bx, 0, none⟩ 1 1 [.int .i64 y] hx rfl ?_ (by simp [Value.oneCell']) (by decide) (by unfold maxLen; omega) (by omega) hbase w.heap.size rfl ?_
  · intro j u hj
    match j, hj with
    | 0, hj => simp at hj; subst hj; simpa [Addr.add] using hc
  · intro g cap w' h1 h2 h3 h4
    refine h g cap w' ?_ ?_ ?_
    · unfold OwnInts
      simpa using h1
    · refine (Below.refl base w).grown h2 hbase ?_
      intro k hk
      exact (World.ownsRow.lt hown k hk).1
    · rcases h3 with h3 | rfl
      · exact (World.ownsRow.lt hown g h3).1
      · exact hbase

/-- A cell that can be written. -/
def Free (W : World) (b : Nat) : Prop := ∃ q k d, W.cell? ⟨b, 0, none⟩ = some (.slice q k d) ∧ W.frozen? ⟨b, 0, none⟩ = false
theorem Free.below {W W' : World} {b : Nat} (h : Free W b) (hb : Below W.heap.size W W') : Free W' b := by
  obtain ⟨q, k, d, h1, h2⟩ := h
  have hlt := World.block_lt_of_cell? _ _ h1
  exact ⟨q, k, d, (hb.cell hlt).trans h1, (hb.frozen hlt).trans h2⟩
theorem Free.lt {W : World} {b : Nat} (h : Free W b) : b < W.heap.size := by
  obtain ⟨_, _, _, h1, _⟩ := h
  exact World.block_lt_of_cell? _ _ h1
theorem near_cell {S : Nat → Prop} {W W' : World} {b o : Nat} {v : Value} (h : W.cell? ⟨b, o, none⟩ = some v) (hn : Near S W W') (hS : ¬ S b) : W'.cell? ⟨b, o, none⟩ = some v := (hn.cell (World.block_lt_of_cell? _ _ h) hS).trans h
/-- A slice of numbers that lies in neither of two blocks. -/
def QAt (cf bm : Nat) (W : World) (p : Option Addr) (k : Nat) (l : List Int) : Prop := IntsAt W p k l ∧ ∀ a, p = some a → a.block ≠ cf ∧ a.block ≠ bm
theorem QAt.near {cf bm : Nat} {W W' : World} {p : Option Addr} {k : Nat} {l : List Int} (h : QAt cf bm W p k l) (hn : Near (fun k => k = cf ∨ k = bm) W W') : QAt cf bm W' p k l :=
  ⟨h.1.kept fun a ha _ hlt => hn.block _ hlt (fun hs => by have := h.2 a ha; omega), h.2⟩
/-- How the search ends. -/
def APost (cf bm : Nat) (Inv : Nat → World → Prop) (nn : Nat) (W : World) (res : Option (List Int)) (e : Ending) (W' : World) : Prop :=
  e = .returned (.bool res.isSome) ∧ Near (fun k => k = cf ∨ k = bm) W W' ∧ Free W' cf ∧ Inv nn W' ∧ ∀ X, res = some X → ∃ p k c, W'.cell? ⟨cf, 0, none⟩ = some (.slice p k c) ∧ QAt cf bm W' p k X
/-- The cells of the search: what is asked, of what, the search itself. -/
structure LCell (W : World) (g bk cf bx bw ba : Nat) : Prop where
  cx : W.cell? ⟨bx, 0, none⟩ = some (.func (.func g) #[] #[])
  cw : W.cell? ⟨bw, 0, none⟩ = some (.pointer (some ⟨bk, 0, none⟩))
  ca : W.cell? ⟨ba, 0, none⟩ = some (.func (.func 120) #[] #[.pointer (some ⟨cf, 0, none⟩), .pointer (some ⟨bx, 0, none⟩), .pointer (some ⟨bw, 0, none⟩), .pointer (some ⟨ba, 0, none⟩)])
theorem LCell.near {S : Nat → Prop} {W W' : World} {g bk cf bx bw ba : Nat} (h : LCell W g bk cf bx bw ba) (hn : Near S W W') (h1 : ¬ S bx) (h2 : ¬ S bw) (h3 : ¬ S ba) : LCell W' g bk cf bx bw ba :=
  ⟨near_cell h.cx hn h1, near_cell h.cw hn h2, near_cell h.ca hn h3⟩
theorem combos_go (b m i : Nat) (pre : List Int) (f : List Int → Bool) (h : i + m < b) :
    ((List.range' i (b - m - i)).flatMap fun j => (combos b m (j + 1)).map fun y => pre ++ ((j : Int) :: y)).find? f =
      (((combos b m (i + 1)).map fun y => (pre ++ [(i : Int)]) ++ y).find? f).or (((List.range' (i + 1) (b - m - (i + 1))).flatMap fun j => (combos b m (j + 1)).map fun y => pre ++ ((j : Int) :: y)).find? f) := by
  have e : b - m - i = (b - m - (i + 1)) + 1 := by omega
  rw [e, List.range'_succ, List.flatMap_cons, List.find?_append]
  simp [List.append_assoc]
theorem combos_pre (b m s : Nat) (pre : List Int) : (combos b (m + 1) s).map (fun y => pre ++ y) = (List.range' s (b - m - s)).flatMap fun j => (combos b m (j + 1)).map fun y => pre ++ ((j : Int) :: y) := by
  rw [combos, List.map_flatMap]
  simp [Function.comp_def]
/-- How many entries a search may add. -/
def cost : Nat → Nat
  | 0 => 2000
  | m + 1 => 7 * cost m
/-- What the search carries along. -/
structure Carry (Inv : Nat → World → Prop) (f : List Int → Bool) (B g bk bm cf : Nat) (p : Option Addr) (n c : Nat) : Prop where
  near : ∀ nn W1 W2, Inv nn W1 → Near (fun k => k = cf) W1 W2 → Inv nn W2
  more : ∀ nn nn' W, Inv nn W → nn ≤ nn' → Inv nn' W
  len : ∀ nn W, Inv nn W → W.cell? ⟨bk, 11, none⟩ = some (.slice p n c)
  lt : ∀ nn W, Inv nn W → bm < W.heap.size
  cb : ∀ (nn : Nat) (X : List Int) (q : Option Addr) (k d : Nat) (W : World), Inv nn W → nn + 2000 ≤ B → QAt cf bm W q k X → k ≤ 100 → Calls Try.prog g #[.pointer (some ⟨bk, 0, none⟩), .slice q k d] W fun e W' => e = .returned (.bool (f X)) ∧ Near (fun k => k = bm) W W' ∧ Inv (nn + 2000) W'

set_option maxRecDepth 40000 in
set_option maxHeartbeats 8000000 in
theorem add84_any (Inv : Nat → World → Prop) (f : List Int → Bool) (B bk bm cf bx bw ba : Nat) (p0 : Option Addr) (n c0 : Nat) (hca : Carry Inv f B 84 bk bm cf p0 n c0) (hn6 : n ≤ 6) (hcm : cf ≠ bm)
    (hx : bx ≠ cf ∧ bx ≠ bm) (hw : bw ≠ cf ∧ bw ≠ bm) (ha : ba ≠ cf ∧ ba ≠ bm) :
    ∀ (m s : Nat) (pre : List Int) (p : Option Addr) (k c nn : Nat) (W : World), Inv nn W → Free W cf → LCell W 84 bk cf bx bw ba → QAt cf bm W p k pre → s ≤ n → pre.length ≤ s → pre.length + m ≤ 100 → nn + cost m ≤ B →
      Calls Try.prog 120 #[.slice p k c, .int .i64 s, .int .i64 m, .pointer (some ⟨cf, 0, none⟩), .pointer (some ⟨bx, 0, none⟩), .pointer (some ⟨bw, 0, none⟩), .pointer (some ⟨ba, 0, none⟩)] W (APost cf bm Inv (nn + cost m) W (((combos n m s).map fun y => pre ++ y).find? f)) := by
  intro m
  induction m with
  | zero =>
    intro s pre p k c nn W hI hF hL hP hs hps hpm hnn
    have hres : ((combos n 0 s).map fun y => pre ++ y).find? f = if f pre = true then some pre else none := by
      simp only [combos, List.map_cons, List.map_nil, List.append_nil, List.find?_cons, List.find?_nil]
      cases f pre <;> rfl
    obtain ⟨res, hr2⟩ : ∃ res, (if f pre = true then some pre else none) = res := ⟨_, rfl⟩
    rw [hres, hr2]
    have HR2 := hid hr2
    obtain ⟨_, _, _, hv1, hv2⟩ := hF
    have hn1 : Near (fun k => k = cf) W (W.setCell ⟨cf, 0, none⟩ (.slice p k c)) := (Near.refl (fun k => k = cf) W).setCell (p := ⟨cf, 0, none⟩) (fun _ => rfl) _
    have hq1 := hP.near (hn1.mono (fun _ _ h => .inl h))
    have hx1 : (W.setCell ⟨cf, 0, none⟩ (.slice p k c)).cell? ⟨cf, 0, none⟩ = some (.slice p k c) := World.cell?_setCell_same' _ _ _ (by rw [hv1]; rfl)
    have hf1 : (W.setCell ⟨cf, 0, none⟩ (.slice p k c)).frozen? ⟨cf, 0, none⟩ = false := by rw [World.frozen?_setCell]; exact hv2
    have hL1 := hL.near hn1 hx.1 hw.1 ha.1
    have HC1 := hid (hca.cb nn pre p k c _ (hca.near nn _ _ hI hn1) hnn hq1 (by have := hP.1.1; omega))
    obtain ⟨W1, hW1⟩ : ∃ V, W.setCell ⟨cf, 0, none⟩ (.slice p k c) = V := ⟨_, rfl⟩
    rw [hW1] at hn1 hq1 hx1 hf1 hL1 HC1
    have cx := hL1.cx; have cw := hL1.cw
    have HN1 := hid hn1; have HQ1 := hid hq1; have HX1 := hid hx1; have HF1 := hid hf1
    clear hI hP hL hca hn1 hq1 hx1 hf1 hL1 hres hr2
    go_enter Try.func120, Try.ntmps120
    go_wp2_with fail
    refine HC1.out.mono ?_
    rintro e W2 ⟨rfl, hn2, hi2⟩
    have HN2 := hid hn2; have HI2 := hid hi2
    clear hn2 hi2 hW1
    go_wp2_with fail
    go_ret
    have hlt := World.block_lt_of_cell? _ _ HX1.out
    refine ⟨by rw [← HR2.out]; cases f pre <;> rfl, (HN1.out.mono (fun _ _ h => .inl h)).trans (HN2.out.mono (fun _ _ h => .inr h)), ⟨_, _, _, near_cell HX1.out HN2.out hcm, (HN2.out.frozen (p := ⟨cf, 0, none⟩) hlt hcm).trans HF1.out⟩, HI2.out, fun X hX => ?_⟩
    refine ⟨p, k, c, near_cell HX1.out HN2.out hcm, ?_⟩
    have : X = pre := by
      rw [← HR2.out] at hX
      cases hfp : f pre <;> simp [hfp] at hX
      exact hX.symm
    subst this
    exact HQ1.out.near (HN2.out.mono (fun _ _ h => .inr h))
  | succ m ih =>
    intro s pre p k c nn W hI hF hL hP hs hps hpm hnn
    have HI := hid hI
    have HF := hid hF
    have HL := hid hL
    have HP := hid hP
    have HIH := hid ih
    have HCA := hid hca
    have hk100 : k ≤ 100 := by have := hP.1.1; omega
    have hm1 : (((m : Int) + 1) == 0) = false := by simp; omega
    have hmB : m ≤ 100 := by omega
    rw [combos_pre]
    obtain ⟨tot, htot⟩ : ∃ tot, ((List.range' s (n - m - s)).flatMap fun j => (combos n m (j + 1)).map fun y => pre ++ ((j : Int) :: y)).find? f = tot := ⟨_, rfl⟩
    rw [htot]
    have HTOT := hid htot
    rw [show ((m + 1 : Nat) : Int) = (m : Int) + 1 by push_cast; rfl]
    obtain ⟨K0, hK0⟩ : ∃ K0, cost m = K0 := ⟨_, rfl⟩
    rw [show cost (m + 1) = 7 * K0 by rw [← hK0]; rfl] at hnn ⊢
    have HK0 := hid hK0; have HNN := hid hnn
    clear hI hF hL hP ih hca htot hK0 hnn
    go_enter Try.func120, Try.ntmps120
    go_wp2_with fail
    go_loopw [11] (fun x wr => ∃ i : Nat, s ≤ i ∧ (i ≤ n ∨ i = s) ∧ x = .int .i64 i ∧ Near (fun k => k = cf ∨ k = bm) W wr ∧ Free wr cf ∧ Inv (nn + (i - s) * K0) wr ∧ ((List.range' i (n - m - i)).flatMap fun j => (combos n m (j + 1)).map fun y => pre ++ ((j : Int) :: y)).find? f = tot) (fun x _ => n + 1 - (intOf x).toNat)
    case atStart => exact ⟨s, Nat.le_refl _, .inr rfl, rfl, Near.refl _ _, HF.out, by rw [Nat.sub_self, Nat.zero_mul]; exact HI.out, HTOT.out⟩
    case round =>
      obtain ⟨i, hi1, hi2, rfl, hnr, hfr, hir, hr⟩ := hrel
      have HNR := hid hnr
      have HFR := hid hfr
      have HR := hid hr
      have HIR := hid hir
      have HLR := HL.out.near hnr (by omega) (by omega) (by omega)
      have cw0 := HLR.cw
      have c11 := HCA.out.len _ _ hir
      have HLR := hid HLR
      have HPR := hid (HP.out.near hnr)
      have HI6 : Hid (i - s ≤ 6) := hid (by omega)
      have hmul : (i - s) * K0 ≤ 6 * K0 := Nat.mul_le_mul_right _ HI6.out
      have HKL7 : Hid (nn + (i - s) * K0 ≤ nn + 7 * K0) := hid (by omega)
      have HKL : Hid (nn + (i - s) * K0 + K0 ≤ nn + 7 * K0) := hid (by omega)
      have HKE : Hid (nn + (i + 1 - s) * K0 = nn + (i - s) * K0 + K0) := hid (by rw [show i + 1 - s = (i - s) + 1 by omega, Nat.succ_mul, Nat.add_assoc])
      have hi100 : i ≤ 6 := by omega
      clear hnr hfr hr hir hmul
      by_cases hlt : i + m < n
      · have hle : (i : Int) ≤ (n : Int) - ((m : Int) + 1) := by omega
        obtain ⟨res, hres⟩ : ∃ res, ((combos n m (i + 1)).map fun y => (pre ++ [(i : Int)]) ++ y).find? f = res := ⟨_, rfl⟩
        have HGO := hid (combos_go n m i pre f hlt)
        have HIHR : Hid (∀ (V : World) (g5 cap5 : Nat), Below wr.heap.size wr V → OwnInts V wr.heap.size (.slice (some ⟨g5, 0, none⟩) (pre.length + 1) cap5) (pre ++ [(i : Int)]) → wr.heap.size ≤ g5 → Calls Try.prog 120 #[.slice (some ⟨g5, 0, none⟩) (pre.length + 1) cap5, .int .i64 ((i : Int) + 1), .int .i64 (m : Int), .pointer (some ⟨cf, 0, none⟩), .pointer (some ⟨bx, 0, none⟩), .pointer (some ⟨bw, 0, none⟩), .pointer (some ⟨ba, 0, none⟩)] V (APost cf bm Inv (nn + (i - s) * K0 + K0) V res)) := by
          intro V g5 cap5 hV hown hg5
          have hlen : (pre ++ [(i : Int)]).length = pre.length + 1 := by simp
          have hcw := HFR.out.lt
          have hmw := HCA.out.lt _ _ HIR.out
          have hq : QAt cf bm V (some ⟨g5, 0, none⟩) (pre.length + 1) (pre ++ [(i : Int)]) := by
            obtain ⟨p', c', e, hh⟩ := hown.slice
            rw [hlen] at e hh
            cases e
            refine ⟨hh, fun a ha => ?_⟩
            cases ha
            show g5 ≠ cf ∧ g5 ≠ bm
            omega
          have h := HIH.out (i + 1) (pre ++ [(i : Int)]) (some ⟨g5, 0, none⟩) (pre.length + 1) cap5 (nn + (i - s) * K0) V (HCA.out.near _ _ _ HIR.out ((near_below hV).mono (fun _ _ h => h.elim))) (HFR.out.below hV) (HLR.out.near (near_below hV) (fun h => h) (fun h => h) (fun h => h)) hq (by omega) (by rw [hlen]; omega) (by rw [hlen]; omega) (by rw [HK0.out]; have := HKL.out; have := HNN.out; omega)
          rw [hres, HK0.out] at h
          rw [show ((i + 1 : Nat) : Int) = (i : Int) + 1 by push_cast; rfl] at h
          exact h
        have HRES := hid hres
        clear hres
        have HV : Hid (∀ V, Near (fun k => k = cf ∨ k = bm) wr V → V.cell? ⟨ba, 0, none⟩ = some (.func (.func 120) #[] #[.pointer (some ⟨cf, 0, none⟩), .pointer (some ⟨bx, 0, none⟩), .pointer (some ⟨bw, 0, none⟩), .pointer (some ⟨ba, 0, none⟩)])) := fun V hV => near_cell HLR.out.ca hV (by omega)
        have hw1 : IntKind.i64.wrap ((i : Int) + 1) = (i : Int) + 1 := IntWalk.i64_in _ (by omega)
        have hw2 : IntKind.i64.wrap (m : Int) = (m : Int) := IntWalk.i64_in _ (by omega)
        go_wp2_with fail
        refine wp_region_held_drew (S := fun V => Near (fun k => k = cf ∨ k = bm) wr V) (by kernel_rfl) (Near.refl _ _).drew (fun hS => ?_)
        have hBl : Below wr.heap.size wr wr.drew := (Below.refl _ _).drew
        clear cw0 c11
        simp only [List.size_toArray, List.length_cons, List.length_nil, Nat.reduceAdd, Array.replicate_succ, Array.replicate_zero, List.push_toArray, List.nil_append, List.cons_append]
        refine tkH (i := 0) (v := ?_) (fun V hV => ?_) ?_
        rotate_left
        · have v0 := HV.out V hV; go_simp
          try with_reducible rfl
        try simp only [Act.put, List.getElem_toArray, List.getElem_cons_zero, List.setIfInBounds_toArray, List.set_cons_zero, List.set_cons_succ]
        refine tkH (i := 1) (v := ?_) (fun V hV => ?_) ?_
        rotate_left
        · go_simp
          try with_reducible rfl
        try simp only [Act.put, List.getElem_toArray, List.getElem_cons_zero, List.getElem_cons_succ, List.setIfInBounds_toArray, List.set_cons_zero, List.set_cons_succ]
        refine tkH (i := 3) (v := ?_) (fun V hV => ?_) ?_
        rotate_left
        · go_simp
          try with_reducible rfl
        try simp only [Act.put, List.getElem_toArray, List.getElem_cons_zero, List.getElem_cons_succ, List.setIfInBounds_toArray, List.set_cons_zero, List.set_cons_succ]
        refine tkH (i := 6) (v := ?_) (fun V hV => ?_) ?_
        rotate_left
        · go_simp
          try with_reducible rfl
        try simp only [Act.put, List.getElem_toArray, List.getElem_cons_zero, List.getElem_cons_succ, List.setIfInBounds_toArray, List.set_cons_zero, List.set_cons_succ]
        refine tkH (i := 7) (v := ?_) (fun V hV => ?_) ?_
        rotate_left
        · go_simp
          try with_reducible rfl
        try simp only [Act.put, List.getElem_toArray, List.getElem_cons_zero, List.getElem_cons_succ, List.setIfInBounds_toArray, List.set_cons_zero, List.set_cons_succ]
        refine tkH (i := 8) (v := ?_) (fun V hV => ?_) ?_
        rotate_left
        · go_simp
          try with_reducible rfl
        try simp only [Act.put, List.getElem_toArray, List.getElem_cons_zero, List.getElem_cons_succ, List.setIfInBounds_toArray, List.set_cons_zero, List.set_cons_succ]
        refine tkH (i := 9) (v := ?_) (fun V hV => ?_) ?_
        rotate_left
        · go_simp
          try with_reducible rfl
        try simp only [Act.put, List.getElem_toArray, List.getElem_cons_zero, List.getElem_cons_succ, List.setIfInBounds_toArray, List.set_cons_zero, List.set_cons_succ]
        refine wpAnyH_ready (rs := [2, 4]) (by kernel_rfl) (by simp) ?_
        refine AllReadyH.cons (o := _) rfl (fun K hK => ?_) ?_
        · skip
          go_simp
          refine (clone_any p k c pre _ (HPR.out.near hS).1 (by omega)).mono ?_
          rintro e V2 ⟨v2, rfl, ho2, hb2⟩
          have hs2 : wr.heap.size ≤ wr.heap.size := hS.size
          have hbv : wr.heap.size ≤ V2.heap.size := Nat.le_trans hs2 hb2.size
          have hBl := hBl.trans (hb2.mono hBl.size)
          refine hK.out _ _ (hS.trans (Near.of_below hb2 (fun k h1 h2 => by omega))) (fun hS => ?_)
          clear hK K
          try simp only [List.setIfInBounds_toArray, List.set_cons_zero, List.set_cons_succ]
          refine wpAnyH_ready (rs := [4]) (by kernel_rfl) (by simp) ?_
          refine AllReadyH.cons (o := _) rfl (fun K hK => ?_) AllReadyH.nil
          obtain ⟨V4, hV4⟩ : ∃ V4, V2.alloc (.cells #[.int .i64 (i : Int)] 3) = V4 := ⟨_, rfl⟩
          have hx4 : V4.cell? ⟨V2.heap.size, 0, none⟩ = some (.int .i64 (i : Int)) := by rw [← hV4]; exact cell_box V2 _ 3 0 _ rfl
          have hb4 : Below V2.heap.size V2 V4 := by rw [← hV4]; exact (Below.refl _ _).alloc (Nat.le_refl _) _
          have hBl := hBl.trans (hb4.mono hBl.size)
          go_simp
          refine hK.out _ _ (hS.trans (Near.of_below hb4 (fun k h1 h2 => by omega))) (fun hS => ?_)
          clear hK K
          try simp only [List.setIfInBounds_toArray, List.set_cons_zero, List.set_cons_succ]
          refine wpAnyH_ready (rs := [5]) (by kernel_rfl) (by simp) ?_
          refine AllReadyH.cons (o := _) rfl (fun K hK => ?_) AllReadyH.nil
          refine step_append_int (by rfl) (.tmp 35) (.tmp 37) (by rfl) wr.heap.size v2 pre (i : Int) V2.heap.size ((ho2.mono hs2).below hb4) rfl rfl hx4 (by have := HPR.out.1.1; omega) hS.size ?_
          intro g5 cap5 V5 h5 hb5 hg5
          have hBl := hBl.trans hb5
          refine hK.out _ _ (hS.trans' (T := fun k => wr.heap.size ≤ k) (Near.of_below hb5 (fun k h1 h2 => h2)) (fun j h1 h2 => by omega)) (fun hS => ?_)
          clear hK K
          try simp only [Act.put, List.getElem_toArray, List.getElem_cons_zero, List.getElem_cons_succ, List.setIfInBounds_toArray, List.set_cons_zero, List.set_cons_succ]
          refine wpAnyH_ready (rs := [10]) (by kernel_rfl) (by simp) ?_
          refine AllReadyH.cons (o := _) rfl (fun K hK => ?_) AllReadyH.nil
          go_simp
          refine (HIHR.out V5 g5 cap5 hBl h5 hg5).mono ?_
          rintro e V10 hpost
          obtain ⟨rfl, hn10, hf10, hi10, hx10⟩ := hpost
          refine hK.out _ _ (hS.trans hn10) (fun hS => ?_)
          clear hK K
          try simp only [List.setIfInBounds_toArray, List.set_cons_zero, List.set_cons_succ]
          refine wpAnyH_done (by kernel_rfl) ?_ _
          have HS10 := hid (HNR.out.trans hS)
          have HF10 := hid hf10
          have HX10 := hid hx10
          have HI10 := hid hi10
          clear hS hBl hn10 hf10 hx10 hi10
          cases res with
          | none =>
            have HNX : Hid (((List.range' (i + 1) (n - m - (i + 1))).flatMap fun j => (combos n m (j + 1)).map fun y => pre ++ ((j : Int) :: y)).find? f = tot) := by
              show _ = _
              have h1 := HGO.out
              rw [HRES.out, HR.out] at h1
              simpa using h1.symm
            go_wp2
            go_roundw
            case rel => exact ⟨i + 1, by omega, .inl (by omega), by go_num, HS10.out, HF10.out, by rw [HKE.out]; exact HI10.out, HNX.out⟩
            case measure => simp [intOf]; omega
          | some X =>
            have HTX : Hid (tot = some X) := by
              show _ = _
              have h1 := HGO.out
              rw [HRES.out, HR.out] at h1
              simpa using h1
            go_wp2
            go_ret
            exact ⟨by rw [HTX.out]; rfl, HS10.out, HF10.out, HCA.out.more _ _ _ HI10.out HKL.out, fun Y hY => HX10.out Y (by rw [← HTX.out]; exact hY)⟩
        refine AllReadyH.cons (o := _) rfl (fun K hK => ?_) AllReadyH.nil
        obtain ⟨V4, hV4⟩ : ∃ V4, (wr.alloc (.cells #[.int .i64 (i : Int)] 3)).drew = V4 := ⟨_, rfl⟩
        have hx4 : V4.cell? ⟨wr.heap.size, 0, none⟩ = some (.int .i64 (i : Int)) := by rw [← hV4]; exact cell_box wr _ 3 0 _ rfl
        have hb4 : Below wr.heap.size wr V4 := by rw [← hV4]; exact ((Below.refl _ _).alloc (Nat.le_refl _) _).drew
        have hBl : Below wr.heap.size wr V4 := hb4
        go_simp
        refine hK.out _ _ (Near.of_below hb4 (fun k h1 h2 => by omega)) (fun hS => ?_)
        clear hK K
        try simp only [List.setIfInBounds_toArray, List.set_cons_zero, List.set_cons_succ]
        refine wpAnyH_ready (rs := [2]) (by kernel_rfl) (by simp) ?_
        refine AllReadyH.cons (o := _) rfl (fun K hK => ?_) AllReadyH.nil
        go_simp
        refine (clone_any p k c pre _ (HPR.out.near hS).1 (by omega)).mono ?_
        rintro e V2 ⟨v2, rfl, ho2, hb2⟩
        have hs2 : wr.heap.size ≤ V4.heap.size := hS.size
        have hbv : wr.heap.size ≤ V2.heap.size := Nat.le_trans hs2 hb2.size
        have hBl := hBl.trans (hb2.mono hBl.size)
        have hx4 := (hb2.cell (World.block_lt_of_cell? _ _ hx4)).trans hx4
        refine hK.out _ _ (hS.trans (Near.of_below hb2 (fun k h1 h2 => by omega))) (fun hS => ?_)
        clear hK K
        try simp only [List.setIfInBounds_toArray, List.set_cons_zero, List.set_cons_succ]
        refine wpAnyH_ready (rs := [5]) (by kernel_rfl) (by simp) ?_
        refine AllReadyH.cons (o := _) rfl (fun K hK => ?_) AllReadyH.nil
        refine step_append_int (by rfl) (.tmp 35) (.tmp 37) (by rfl) wr.heap.size v2 pre (i : Int) wr.heap.size (ho2.mono hs2) rfl rfl hx4 (by have := HPR.out.1.1; omega) hS.size ?_
        intro g5 cap5 V5 h5 hb5 hg5
        have hBl := hBl.trans hb5
        refine hK.out _ _ (hS.trans' (T := fun k => wr.heap.size ≤ k) (Near.of_below hb5 (fun k h1 h2 => h2)) (fun j h1 h2 => by omega)) (fun hS => ?_)
        clear hK K
        try simp only [Act.put, List.getElem_toArray, List.getElem_cons_zero, List.getElem_cons_succ, List.setIfInBounds_toArray, List.set_cons_zero, List.set_cons_succ]
        refine wpAnyH_ready (rs := [10]) (by kernel_rfl) (by simp) ?_
        refine AllReadyH.cons (o := _) rfl (fun K hK => ?_) AllReadyH.nil
        go_simp
        refine (HIHR.out V5 g5 cap5 hBl h5 hg5).mono ?_
        rintro e V10 hpost
        obtain ⟨rfl, hn10, hf10, hi10, hx10⟩ := hpost
        refine hK.out _ _ (hS.trans hn10) (fun hS => ?_)
        clear hK K
        try simp only [List.setIfInBounds_toArray, List.set_cons_zero, List.set_cons_succ]
        refine wpAnyH_done (by kernel_rfl) ?_ _
        have HS10 := hid (HNR.out.trans hS)
        have HF10 := hid hf10
        have HX10 := hid hx10
        have HI10 := hid hi10
        clear hS hBl hn10 hf10 hx10 hi10
        cases res with
        | none =>
          have HNX : Hid (((List.range' (i + 1) (n - m - (i + 1))).flatMap fun j => (combos n m (j + 1)).map fun y => pre ++ ((j : Int) :: y)).find? f = tot) := by
            show _ = _
            have h1 := HGO.out
            rw [HRES.out, HR.out] at h1
            simpa using h1.symm
          go_wp2
          go_roundw
          case rel => exact ⟨i + 1, by omega, .inl (by omega), by go_num, HS10.out, HF10.out, by rw [HKE.out]; exact HI10.out, HNX.out⟩
          case measure => simp [intOf]; omega
        | some X =>
          have HTX : Hid (tot = some X) := by
            show _ = _
            have h1 := HGO.out
            rw [HRES.out, HR.out] at h1
            simpa using h1
          go_wp2
          go_ret
          exact ⟨by rw [HTX.out]; rfl, HS10.out, HF10.out, HCA.out.more _ _ _ HI10.out HKL.out, fun Y hY => HX10.out Y (by rw [← HTX.out]; exact hY)⟩
      · have hgt : (n : Int) - ((m : Int) + 1) < (i : Int) := by omega
        have HTX : Hid (tot = none) := by
          show _ = _
          rw [← HR.out, show n - m - i = 0 by omega]; rfl
        go_wp2
        go_ret
        exact ⟨by rw [HTX.out]; rfl, HNR.out, HFR.out, HCA.out.more _ _ _ HIR.out HKL7.out, fun Y hY => by rw [HTX.out] at hY; cases hY⟩

set_option maxRecDepth 40000 in
set_option maxHeartbeats 8000000 in
theorem add86_any (Inv : Nat → World → Prop) (f : List Int → Bool) (B bk bm cf bx bw ba : Nat) (p0 : Option Addr) (n c0 : Nat) (hca : Carry Inv f B 86 bk bm cf p0 n c0) (hn6 : n ≤ 6) (hcm : cf ≠ bm)
    (hx : bx ≠ cf ∧ bx ≠ bm) (hw : bw ≠ cf ∧ bw ≠ bm) (ha : ba ≠ cf ∧ ba ≠ bm) :
    ∀ (m s : Nat) (pre : List Int) (p : Option Addr) (k c nn : Nat) (W : World), Inv nn W → Free W cf → LCell W 86 bk cf bx bw ba → QAt cf bm W p k pre → s ≤ n → pre.length ≤ s → pre.length + m ≤ 100 → nn + cost m ≤ B →
      Calls Try.prog 120 #[.slice p k c, .int .i64 s, .int .i64 m, .pointer (some ⟨cf, 0, none⟩), .pointer (some ⟨bx, 0, none⟩), .pointer (some ⟨bw, 0, none⟩), .pointer (some ⟨ba, 0, none⟩)] W (APost cf bm Inv (nn + cost m) W (((combos n m s).map fun y => pre ++ y).find? f)) := by
  intro m
  induction m with
  | zero =>
    intro s pre p k c nn W hI hF hL hP hs hps hpm hnn
    have hres : ((combos n 0 s).map fun y => pre ++ y).find? f = if f pre = true then some pre else none := by
      simp only [combos, List.map_cons, List.map_nil, List.append_nil, List.find?_cons, List.find?_nil]
      cases f pre <;> rfl
    obtain ⟨res, hr2⟩ : ∃ res, (if f pre = true then some pre else none) = res := ⟨_, rfl⟩
    rw [hres, hr2]
    have HR2 := hid hr2
    obtain ⟨_, _, _, hv1, hv2⟩ := hF
    have hn1 : Near (fun k => k = cf) W (W.setCell ⟨cf, 0, none⟩ (.slice p k c)) := (Near.refl (fun k => k = cf) W).setCell (p := ⟨cf, 0, none⟩) (fun _ => rfl) _
    have hq1 := hP.near (hn1.mono (fun _ _ h => .inl h))
    have hx1 : (W.setCell ⟨cf, 0, none⟩ (.slice p k c)).cell? ⟨cf, 0, none⟩ = some (.slice p k c) := World.cell?_setCell_same' _ _ _ (by rw [hv1]; rfl)
    have hf1 : (W.setCell ⟨cf, 0, none⟩ (.slice p k c)).frozen? ⟨cf, 0, none⟩ = false := by rw [World.frozen?_setCell]; exact hv2
    have hL1 := hL.near hn1 hx.1 hw.1 ha.1
    have HC1 := hid (hca.cb nn pre p k c _ (hca.near nn _ _ hI hn1) hnn hq1 (by have := hP.1.1; omega))
    obtain ⟨W1, hW1⟩ : ∃ V, W.setCell ⟨cf, 0, none⟩ (.slice p k c) = V := ⟨_, rfl⟩
    rw [hW1] at hn1 hq1 hx1 hf1 hL1 HC1
    have cx := hL1.cx; have cw := hL1.cw
    have HN1 := hid hn1; have HQ1 := hid hq1; have HX1 := hid hx1; have HF1 := hid hf1
    clear hI hP hL hca hn1 hq1 hx1 hf1 hL1 hres hr2
    go_enter Try.func120, Try.ntmps120
    go_wp2_with fail
    refine HC1.out.mono ?_
    rintro e W2 ⟨rfl, hn2, hi2⟩
    have HN2 := hid hn2; have HI2 := hid hi2
    clear hn2 hi2 hW1
    go_wp2_with fail
    go_ret
    have hlt := World.block_lt_of_cell? _ _ HX1.out
    refine ⟨by rw [← HR2.out]; cases f pre <;> rfl, (HN1.out.mono (fun _ _ h => .inl h)).trans (HN2.out.mono (fun _ _ h => .inr h)), ⟨_, _, _, near_cell HX1.out HN2.out hcm, (HN2.out.frozen (p := ⟨cf, 0, none⟩) hlt hcm).trans HF1.out⟩, HI2.out, fun X hX => ?_⟩
    refine ⟨p, k, c, near_cell HX1.out HN2.out hcm, ?_⟩
    have : X = pre := by
      rw [← HR2.out] at hX
      cases hfp : f pre <;> simp [hfp] at hX
      exact hX.symm
    subst this
    exact HQ1.out.near (HN2.out.mono (fun _ _ h => .inr h))
  | succ m ih =>
    intro s pre p k c nn W hI hF hL hP hs hps hpm hnn
    have HI := hid hI
    have HF := hid hF
    have HL := hid hL
    have HP := hid hP
    have HIH := hid ih
    have HCA := hid hca
    have hk100 : k ≤ 100 := by have := hP.1.1; omega
    have hm1 : (((m : Int) + 1) == 0) = false := by simp; omega
    have hmB : m ≤ 100 := by omega
    rw [combos_pre]
    obtain ⟨tot, htot⟩ : ∃ tot, ((List.range' s (n - m - s)).flatMap fun j => (combos n m (j + 1)).map fun y => pre ++ ((j : Int) :: y)).find? f = tot := ⟨_, rfl⟩
    rw [htot]
    have HTOT := hid htot
    rw [show ((m + 1 : Nat) : Int) = (m : Int) + 1 by push_cast; rfl]
    obtain ⟨K0, hK0⟩ : ∃ K0, cost m = K0 := ⟨_, rfl⟩
    rw [show cost (m + 1) = 7 * K0 by rw [← hK0]; rfl] at hnn ⊢
    have HK0 := hid hK0; have HNN := hid hnn
    clear hI hF hL hP ih hca htot hK0 hnn
    go_enter Try.func120, Try.ntmps120
    go_wp2_with fail
    go_loopw [11] (fun x wr => ∃ i : Nat, s ≤ i ∧ (i ≤ n ∨ i = s) ∧ x = .int .i64 i ∧ Near (fun k => k = cf ∨ k = bm) W wr ∧ Free wr cf ∧ Inv (nn + (i - s) * K0) wr ∧ ((List.range' i (n - m - i)).flatMap fun j => (combos n m (j + 1)).map fun y => pre ++ ((j : Int) :: y)).find? f = tot) (fun x _ => n + 1 - (intOf x).toNat)
    case atStart => exact ⟨s, Nat.le_refl _, .inr rfl, rfl, Near.refl _ _, HF.out, by rw [Nat.sub_self, Nat.zero_mul]; exact HI.out, HTOT.out⟩
    case round =>
      obtain ⟨i, hi1, hi2, rfl, hnr, hfr, hir, hr⟩ := hrel
      have HNR := hid hnr
      have HFR := hid hfr
      have HR := hid hr
      have HIR := hid hir
      have HLR := HL.out.near hnr (by omega) (by omega) (by omega)
      have cw0 := HLR.cw
      have c11 := HCA.out.len _ _ hir
      have HLR := hid HLR
      have HPR := hid (HP.out.near hnr)
      have HI6 : Hid (i - s ≤ 6) := hid (by omega)
      have hmul : (i - s) * K0 ≤ 6 * K0 := Nat.mul_le_mul_right _ HI6.out
      have HKL7 : Hid (nn + (i - s) * K0 ≤ nn + 7 * K0) := hid (by omega)
      have HKL : Hid (nn + (i - s) * K0 + K0 ≤ nn + 7 * K0) := hid (by omega)
      have HKE : Hid (nn + (i + 1 - s) * K0 = nn + (i - s) * K0 + K0) := hid (by rw [show i + 1 - s = (i - s) + 1 by omega, Nat.succ_mul, Nat.add_assoc])
      have hi100 : i ≤ 6 := by omega
      clear hnr hfr hr hir hmul
      by_cases hlt : i + m < n
      · have hle : (i : Int) ≤ (n : Int) - ((m : Int) + 1) := by omega
        obtain ⟨res, hres⟩ : ∃ res, ((combos n m (i + 1)).map fun y => (pre ++ [(i : Int)]) ++ y).find? f = res := ⟨_, rfl⟩
        have HGO := hid (combos_go n m i pre f hlt)
        have HIHR : Hid (∀ (V : World) (g5 cap5 : Nat), Below wr.heap.size wr V → OwnInts V wr.heap.size (.slice (some ⟨g5, 0, none⟩) (pre.length + 1) cap5) (pre ++ [(i : Int)]) → wr.heap.size ≤ g5 → Calls Try.prog 120 #[.slice (some ⟨g5, 0, none⟩) (pre.length + 1) cap5, .int .i64 ((i : Int) + 1), .int .i64 (m : Int), .pointer (some ⟨cf, 0, none⟩), .pointer (some ⟨bx, 0, none⟩), .pointer (some ⟨bw, 0, none⟩), .pointer (some ⟨ba, 0, none⟩)] V (APost cf bm Inv (nn + (i - s) * K0 + K0) V res)) := by
          intro V g5 cap5 hV hown hg5
          have hlen : (pre ++ [(i : Int)]).length = pre.length + 1 := by simp
          have hcw := HFR.out.lt
          have hmw := HCA.out.lt _ _ HIR.out
          have hq : QAt cf bm V (some ⟨g5, 0, none⟩) (pre.length + 1) (pre ++ [(i : Int)]) := by
            obtain ⟨p', c', e, hh⟩ := hown.slice
            rw [hlen] at e hh
            cases e
            refine ⟨hh, fun a ha => ?_⟩
            cases ha
            show g5 ≠ cf ∧ g5 ≠ bm
            omega
          have h := HIH.out (i + 1) (pre ++ [(i : Int)]) (some ⟨g5, 0, none⟩) (pre.length + 1) cap5 (nn + (i - s) * K0) V (HCA.out.near _ _ _ HIR.out ((near_below hV).mono (fun _ _ h => h.elim))) (HFR.out.below hV) (HLR.out.near (near_below hV) (fun h => h) (fun h => h) (fun h => h)) hq (by omega) (by rw [hlen]; omega) (by rw [hlen]; omega) (by rw [HK0.out]; have := HKL.out; have := HNN.out; omega)
          rw [hres, HK0.out] at h
          rw [show ((i + 1 : Nat) : Int) = (i : Int) + 1 by push_cast; rfl] at h
          exact h
        have HRES := hid hres
        clear hres
        have HV : Hid (∀ V, Near (fun k => k = cf ∨ k = bm) wr V → V.cell? ⟨ba, 0, none⟩ = some (.func (.func 120) #[] #[.pointer (some ⟨cf, 0, none⟩), .pointer (some ⟨bx, 0, none⟩), .pointer (some ⟨bw, 0, none⟩), .pointer (some ⟨ba, 0, none⟩)])) := fun V hV => near_cell HLR.out.ca hV (by omega)
        have hw1 : IntKind.i64.wrap ((i : Int) + 1) = (i : Int) + 1 := IntWalk.i64_in _ (by omega)
        have hw2 : IntKind.i64.wrap (m : Int) = (m : Int) := IntWalk.i64_in _ (by omega)
        go_wp2_with fail
        refine wp_region_held_drew (S := fun V => Near (fun k => k = cf ∨ k = bm) wr V) (by kernel_rfl) (Near.refl _ _).drew (fun hS => ?_)
        have hBl : Below wr.heap.size wr wr.drew := (Below.refl _ _).drew
        clear cw0 c11
        simp only [List.size_toArray, List.length_cons, List.length_nil, Nat.reduceAdd, Array.replicate_succ, Array.replicate_zero, List.push_toArray, List.nil_append, List.cons_append]
        refine tkH (i := 0) (v := ?_) (fun V hV => ?_) ?_
        rotate_left
        · have v0 := HV.out V hV; go_simp
          try with_reducible rfl
        try simp only [Act.put, List.getElem_toArray, List.getElem_cons_zero, List.setIfInBounds_toArray, List.set_cons_zero, List.set_cons_succ]
        refine tkH (i := 1) (v := ?_) (fun V hV => ?_) ?_
        rotate_left
        · go_simp
          try with_reducible rfl
        try simp only [Act.put, List.getElem_toArray, List.getElem_cons_zero, List.getElem_cons_succ, List.setIfInBounds_toArray, List.set_cons_zero, List.set_cons_succ]
        refine tkH (i := 3) (v := ?_) (fun V hV => ?_) ?_
        rotate_left
        · go_simp
          try with_reducible rfl
        try simp only [Act.put, List.getElem_toArray, List.getElem_cons_zero, List.getElem_cons_succ, List.setIfInBounds_toArray, List.set_cons_zero, List.set_cons_succ]
        refine tkH (i := 6) (v := ?_) (fun V hV => ?_) ?_
        rotate_left
        · go_simp
          try with_reducible rfl
        try simp only [Act.put, List.getElem_toArray, List.getElem_cons_zero, List.getElem_cons_succ, List.setIfInBounds_toArray, List.set_cons_zero, List.set_cons_succ]
        refine tkH (i := 7) (v := ?_) (fun V hV => ?_) ?_
        rotate_left
        · go_simp
          try with_reducible rfl
        try simp only [Act.put, List.getElem_toArray, List.getElem_cons_zero, List.getElem_cons_succ, List.setIfInBounds_toArray, List.set_cons_zero, List.set_cons_succ]
        refine tkH (i := 8) (v := ?_) (fun V hV => ?_) ?_
        rotate_left
        · go_simp
          try with_reducible rfl
        try simp only [Act.put, List.getElem_toArray, List.getElem_cons_zero, List.getElem_cons_succ, List.setIfInBounds_toArray, List.set_cons_zero, List.set_cons_succ]
        refine tkH (i := 9) (v := ?_) (fun V hV => ?_) ?_
        rotate_left
        · go_simp
          try with_reducible rfl
        try simp only [Act.put, List.getElem_toArray, List.getElem_cons_zero, List.getElem_cons_succ, List.setIfInBounds_toArray, List.set_cons_zero, List.set_cons_succ]
        refine wpAnyH_ready (rs := [2, 4]) (by kernel_rfl) (by simp) ?_
        refine AllReadyH.cons (o := _) rfl (fun K hK => ?_) ?_
        · skip
          go_simp
          refine (clone_any p k c pre _ (HPR.out.near hS).1 (by omega)).mono ?_
          rintro e V2 ⟨v2, rfl, ho2, hb2⟩
          have hs2 : wr.heap.size ≤ wr.heap.size := hS.size
          have hbv : wr.heap.size ≤ V2.heap.size := Nat.le_trans hs2 hb2.size
          have hBl := hBl.trans (hb2.mono hBl.size)
          refine hK.out _ _ (hS.trans (Near.of_below hb2 (fun k h1 h2 => by omega))) (fun hS => ?_)
          clear hK K
          try simp only [List.setIfInBounds_toArray, List.set_cons_zero, List.set_cons_succ]
          refine wpAnyH_ready (rs := [4]) (by kernel_rfl) (by simp) ?_
          refine AllReadyH.cons (o := _) rfl (fun K hK => ?_) AllReadyH.nil
          obtain ⟨V4, hV4⟩ : ∃ V4, V2.alloc (.cells #[.int .i64 (i : Int)] 3) = V4 := ⟨_, rfl⟩
          have hx4 : V4.cell? ⟨V2.heap.size, 0, none⟩ = some (.int .i64 (i : Int)) := by rw [← hV4]; exact cell_box V2 _ 3 0 _ rfl
          have hb4 : Below V2.heap.size V2 V4 := by rw [← hV4]; exact (Below.refl _ _).alloc (Nat.le_refl _) _
          have hBl := hBl.trans (hb4.mono hBl.size)
          go_simp
          refine hK.out _ _ (hS.trans (Near.of_below hb4 (fun k h1 h2 => by omega))) (fun hS => ?_)
          clear hK K
          try simp only [List.setIfInBounds_toArray, List.set_cons_zero, List.set_cons_succ]
          refine wpAnyH_ready (rs := [5]) (by kernel_rfl) (by simp) ?_
          refine AllReadyH.cons (o := _) rfl (fun K hK => ?_) AllReadyH.nil
          refine step_append_int (by rfl) (.tmp 35) (.tmp 37) (by rfl) wr.heap.size v2 pre (i : Int) V2.heap.size ((ho2.mono hs2).below hb4) rfl rfl hx4 (by have := HPR.out.1.1; omega) hS.size ?_
          intro g5 cap5 V5 h5 hb5 hg5
          have hBl := hBl.trans hb5
          refine hK.out _ _ (hS.trans' (T := fun k => wr.heap.size ≤ k) (Near.of_below hb5 (fun k h1 h2 => h2)) (fun j h1 h2 => by omega)) (fun hS => ?_)
          clear hK K
          try simp only [Act.put, List.getElem_toArray, List.getElem_cons_zero, List.getElem_cons_succ, List.setIfInBounds_toArray, List.set_cons_zero, List.set_cons_succ]
          refine wpAnyH_ready (rs := [10]) (by kernel_rfl) (by simp) ?_
          refine AllReadyH.cons (o := _) rfl (fun K hK => ?_) AllReadyH.nil
          go_simp
          refine (HIHR.out V5 g5 cap5 hBl h5 hg5).mono ?_
          rintro e V10 hpost
          obtain ⟨rfl, hn10, hf10, hi10, hx10⟩ := hpost
          refine hK.out _ _ (hS.trans hn10) (fun hS => ?_)
          clear hK K
          try simp only [List.setIfInBounds_toArray, List.set_cons_zero, List.set_cons_succ]
          refine wpAnyH_done (by kernel_rfl) ?_ _
          have HS10 := hid (HNR.out.trans hS)
          have HF10 := hid hf10
          have HX10 := hid hx10
          have HI10 := hid hi10
          clear hS hBl hn10 hf10 hx10 hi10
          cases res with
          | none =>
            have HNX : Hid (((List.range' (i + 1) (n - m - (i + 1))).flatMap fun j => (combos n m (j + 1)).map fun y => pre ++ ((j : Int) :: y)).find? f = tot) := by
              show _ = _
              have h1 := HGO.out
              rw [HRES.out, HR.out] at h1
              simpa using h1.symm
            go_wp2
            go_roundw
            case rel => exact ⟨i + 1, by omega, .inl (by omega), by go_num, HS10.out, HF10.out, by rw [HKE.out]; exact HI10.out, HNX.out⟩
            case measure => simp [intOf]; omega
          | some X =>
            have HTX : Hid (tot = some X) := by
              show _ = _
              have h1 := HGO.out
              rw [HRES.out, HR.out] at h1
              simpa using h1
            go_wp2
            go_ret
            exact ⟨by rw [HTX.out]; rfl, HS10.out, HF10.out, HCA.out.more _ _ _ HI10.out HKL.out, fun Y hY => HX10.out Y (by rw [← HTX.out]; exact hY)⟩
        refine AllReadyH.cons (o := _) rfl (fun K hK => ?_) AllReadyH.nil
        obtain ⟨V4, hV4⟩ : ∃ V4, (wr.alloc (.cells #[.int .i64 (i : Int)] 3)).drew = V4 := ⟨_, rfl⟩
        have hx4 : V4.cell? ⟨wr.heap.size, 0, none⟩ = some (.int .i64 (i : Int)) := by rw [← hV4]; exact cell_box wr _ 3 0 _ rfl
        have hb4 : Below wr.heap.size wr V4 := by rw [← hV4]; exact ((Below.refl _ _).alloc (Nat.le_refl _) _).drew
        have hBl : Below wr.heap.size wr V4 := hb4
        go_simp
        refine hK.out _ _ (Near.of_below hb4 (fun k h1 h2 => by omega)) (fun hS => ?_)
        clear hK K
        try simp only [List.setIfInBounds_toArray, List.set_cons_zero, List.set_cons_succ]
        refine wpAnyH_ready (rs := [2]) (by kernel_rfl) (by simp) ?_
        refine AllReadyH.cons (o := _) rfl (fun K hK => ?_) AllReadyH.nil
        go_simp
        refine (clone_any p k c pre _ (HPR.out.near hS).1 (by omega)).mono ?_
        rintro e V2 ⟨v2, rfl, ho2, hb2⟩
        have hs2 : wr.heap.size ≤ V4.heap.size := hS.size
        have hbv : wr.heap.size ≤ V2.heap.size := Nat.le_trans hs2 hb2.size
        have hBl := hBl.trans (hb2.mono hBl.size)
        have hx4 := (hb2.cell (World.block_lt_of_cell? _ _ hx4)).trans hx4
        refine hK.out _ _ (hS.trans (Near.of_below hb2 (fun k h1 h2 => by omega))) (fun hS => ?_)
        clear hK K
        try simp only [List.setIfInBounds_toArray, List.set_cons_zero, List.set_cons_succ]
        refine wpAnyH_ready (rs := [5]) (by kernel_rfl) (by simp) ?_
        refine AllReadyH.cons (o := _) rfl (fun K hK => ?_) AllReadyH.nil
        refine step_append_int (by rfl) (.tmp 35) (.tmp 37) (by rfl) wr.heap.size v2 pre (i : Int) wr.heap.size (ho2.mono hs2) rfl rfl hx4 (by have := HPR.out.1.1; omega) hS.size ?_
        intro g5 cap5 V5 h5 hb5 hg5
        have hBl := hBl.trans hb5
        refine hK.out _ _ (hS.trans' (T := fun k => wr.heap.size ≤ k) (Near.of_below hb5 (fun k h1 h2 => h2)) (fun j h1 h2 => by omega)) (fun hS => ?_)
        clear hK K
        try simp only [Act.put, List.getElem_toArray, List.getElem_cons_zero, List.getElem_cons_succ, List.setIfInBounds_toArray, List.set_cons_zero, List.set_cons_succ]
        refine wpAnyH_ready (rs := [10]) (by kernel_rfl) (by simp) ?_
        refine AllReadyH.cons (o := _) rfl (fun K hK => ?_) AllReadyH.nil
        go_simp
        refine (HIHR.out V5 g5 cap5 hBl h5 hg5).mono ?_
        rintro e V10 hpost
        obtain ⟨rfl, hn10, hf10, hi10, hx10⟩ := hpost
        refine hK.out _ _ (hS.trans hn10) (fun hS => ?_)
        clear hK K
        try simp only [List.setIfInBounds_toArray, List.set_cons_zero, List.set_cons_succ]
        refine wpAnyH_done (by kernel_rfl) ?_ _
        have HS10 := hid (HNR.out.trans hS)
        have HF10 := hid hf10
        have HX10 := hid hx10
        have HI10 := hid hi10
        clear hS hBl hn10 hf10 hx10 hi10
        cases res with
        | none =>
          have HNX : Hid (((List.range' (i + 1) (n - m - (i + 1))).flatMap fun j => (combos n m (j + 1)).map fun y => pre ++ ((j : Int) :: y)).find? f = tot) := by
            show _ = _
            have h1 := HGO.out
            rw [HRES.out, HR.out] at h1
            simpa using h1.symm
          go_wp2
          go_roundw
          case rel => exact ⟨i + 1, by omega, .inl (by omega), by go_num, HS10.out, HF10.out, by rw [HKE.out]; exact HI10.out, HNX.out⟩
          case measure => simp [intOf]; omega
        | some X =>
          have HTX : Hid (tot = some X) := by
            show _ = _
            have h1 := HGO.out
            rw [HRES.out, HR.out] at h1
            simpa using h1
          go_wp2
          go_ret
          exact ⟨by rw [HTX.out]; rfl, HS10.out, HF10.out, HCA.out.more _ _ _ HI10.out HKL.out, fun Y hY => HX10.out Y (by rw [← HTX.out]; exact hY)⟩
      · have hgt : (n : Int) - ((m : Int) + 1) < (i : Int) := by omega
        have HTX : Hid (tot = none) := by
          show _ = _
          rw [← HR.out, show n - m - i = 0 by omega]; rfl
        go_wp2
        go_ret
        exact ⟨by rw [HTX.out]; rfl, HNR.out, HFR.out, HCA.out.more _ _ _ HIR.out HKL7.out, fun Y hY => by rw [HTX.out] at hY; cases hY⟩
end Go.Proofs.Ytfnefkenheglhaa
