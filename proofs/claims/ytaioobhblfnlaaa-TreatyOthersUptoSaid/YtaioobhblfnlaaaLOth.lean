/- TreatyOthers: what treaties that protect other treaties are does not change what the society keeps. For each programme of at most 1100000 treaties, number and two bytes. -/
import Derived.Test.YtaioobhblfnlaaaDA
namespace Go.Proofs.Ytaioobhblfnlaaa
open Go.RowKit

theorem OwnRows.boxW {α : Type} {enc : α → List Value} {z : Nat} {T : TypeId} {w : World} {base : Nat} {v : Value} {l : List α} (h : OwnRows enc z T w base v l) :
    ∃ q c, v = .slice q l.length c ∧ (0 < l.length → ∃ g, q = some ⟨g, 0, none⟩ ∧ base ≤ g ∧ BoxIs g (l.flatMap enc).toArray w) := by
  have h0 := h
  rcases h.2 with ⟨rfl, hn⟩ | ⟨g, cap, cur, rfl, hg, hh, hn, hm, hs, ht⟩
  · exact ⟨none, 0, by rw [hn], fun hp => by omega⟩
  · refine ⟨_, cap, rfl, fun _ => ⟨g, rfl, hg, (Array.getElem?_eq_some_iff.1 hh).1, fun k v hk => ?_⟩⟩
    have e : ∀ y : Nat, (⟨g, 0, none⟩ : Addr).add y = ⟨g, 0 + y, none⟩ := fun y => by unfold Addr.add; split <;> simp_all
    have hk' : (l.flatMap enc)[k]? = some v := by simpa using hk
    have hc := World.ownsRow.cells h0 (g := g) rfl k v hk'
    rw [e, Nat.zero_add] at hc
    exact ⟨hc, by simp only [World.frozen?]; rw [hh]; rfl⟩

theorem Try.info94 : (Try.prog.info? 94).map (fun i => (i.zero, i.size, i.bytes)) = some (some (.agg #[.int .i64 0, .int .i64 0, .int .i64 0, .int .i64 0, .int .i64 0, .int .i64 0, .int .i64 0]), 7, 56) := by kernel_rfl
theorem Try.und23 : Try.prog.underlying 23 = some (.slice 94) := by kernel_rfl
/-- append(out, l...), l that may be nothing: at a plain region's list. -/
theorem list_append_rows {α : Type} {enc : α → List Value} {z : Nat} (hz : ∀ c, (enc c).length = z) (h0 : 0 < z) (hone : ∀ c, ∀ u ∈ enc c, u.oneCell' = true) (sl T : TypeId) (zero : Value) (bytes : Nat) (hby : bytes ≤ 1000)
    (hinfo : (Try.prog.info? T).map (fun i => (i.zero, i.size, i.bytes)) = some (some zero, z, bytes)) (hzero : zero.cells.size = z) (hund : Try.prog.underlying sl = some (.slice T))
    {ops : Array Oper} {rest : List Oper} {o : Oper} {a : Act} {w : World} {Q : Exit → Act → World → Prop} (hgd : o.guard = none) (s x : Operand)
    (ho : o.op = .call { callee := .builtin .append, args := #[s, x], argTypes := #[sl, sl] })
    (base : Nat) (v : Value) (l : List α) (q : Option Addr) (m c : Nat) (y : List α) (hown : OwnRows enc z T w base v l) (hs : a.eval s = v) (hx : a.eval x = .slice q m c) (hy : RowsAt enc z w q m y)
    (hlen : l.length ≤ 2000000) (hm : m ≤ 2000000) (hbase : base ≤ w.heap.size)
    (h : ∀ v' w', OwnRows enc z T w' base v' (l ++ y) → Below base w w' → (∀ k, k < w.heap.size → some k ≠ v.ownBlock → w'.heap[k]? = w.heap[k]?) → wpList Try.prog ops Q rest (a.put o.dst v') w') :
    wpList Try.prog ops Q (o :: rest) a w := by
  refine wpList_plain hgd fun K hK => ?_
  have h9 := step_append_rows (ops := ops) (K := K) (Q := Q) (E := True) hz h0 hone sl T zero bytes hby hinfo hzero hund hgd s x ho base v l q m c y hown hs hx hy hlen hm hbase (fun v' w' h1 h2 h3 => hK _ _ (h v' w' h1 h2 h3))
  rwa [if_pos (by simp [Region.wanted, hgd])] at h9
/-- A struct is stored into its place of a row. -/
theorem store_row {α : Type} {enc : α → List Value} {z : Nat} (hz : ∀ c, (enc c).length = z) (h0 : 0 < z) (hone : ∀ c, ∀ u ∈ enc c, u.oneCell' = true)
    {ops : Array Oper} {rest : List Oper} {op : Oper} {a : Act} {w : World} {Q : Exit → Act → World → Prop} (hgd : op.guard = none) (ty : TypeId) (x y : Operand) (ho : op.op = .store ty x y)
    (hi : (Try.prog.info? ty).map (·.size) = some z) (b i : Nat) (L : List α) (t : α) (hx : a.eval x = .pointer (some ⟨b, i * z, none⟩)) (hy : a.eval y = .agg (enc t).toArray) (hb : BoxIs b (L.flatMap enc).toArray w) (hil : i < L.length)
    (h : ∀ w', BoxIs b ((L.set i t).flatMap enc).toArray w' → Near (fun k => k = b) w w' → wpList Try.prog ops Q rest (a.put op.dst undef) w') : wpList Try.prog ops Q (op :: rest) a w := by
  have ht : w.there b (i * z) (enc t).length := fun j hj => by
    rw [hz] at hj
    obtain ⟨c, hc⟩ : ∃ c, L[i]? = some c := ⟨_, List.getElem?_eq_getElem hil⟩
    obtain ⟨v, hv⟩ : ∃ v, (enc c)[j]? = some v := ⟨_, List.getElem?_eq_getElem (by rw [hz]; exact hj)⟩
    have h1 := hb.2 (i * z + j) v (by simpa using flat_get hz L i j c v hc hv)
    exact ⟨by rw [h1.1]; rfl, h1.2⟩
  have hn := near_setCells b (enc t) (i * z) w
  refine wpList_store_mid hgd ty x y ho b (i * z) (enc t).toArray hx hy (by simpa using ht) (by simpa [hz] using hi) (all_oneCell_toArray (hone t)) (h _ ⟨Nat.lt_of_lt_of_le hb.1 hn.size, fun k v hk => ?_⟩ hn)
  obtain ⟨c, hc, hv⟩ := flat_get' hz h0 (L.set i t) k v (by simpa using hk)
  have hkz := Nat.div_add_mod' k z
  by_cases e : k / z = i
  · have hce : c = t := by
      rw [e, List.getElem?_set, if_pos rfl, if_pos hil] at hc
      cases hc; rfl
    subst hce
    have h1 := World.rangeAt_setCells_same w b (i * z) (enc c) ht (k % z) v hv
    have h2 := (World.there_setCells ht b (i * z) (enc c)) (k % z) (by rw [hz]; exact Nat.mod_lt _ h0)
    have e3 : i * z + k % z = k := by rw [← e]; exact hkz
    rw [e3] at h1 h2
    exact ⟨h1, h2.2⟩
  · have hc' : L[k / z]? = some c := by
      rw [List.getElem?_set, if_neg (fun h => e h.symm)] at hc; exact hc
    have h1 := hb.2 k v (by have := flat_get hz L (k / z) (k % z) c v hc' hv; rw [hkz] at this; simpa using this)
    refine ⟨?_, by rw [World.frozen?_setCells]; exact h1.2⟩
    rw [World.cell?_setCells_out]
    · exact h1.1
    · intro _ _
      show k < i * z ∨ i * z + (enc t).toArray.toList.length ≤ k
      rw [List.toList_toArray, hz]
      rcases Nat.lt_or_gt_of_ne e with h2 | h2
      · exact .inl ((Nat.div_lt_iff_lt_mul h0).1 h2)
      · right
        have h3 := (Nat.le_div_iff_mul_le h0).1 (Nat.succ_le_of_lt h2)
        rw [Nat.succ_mul] at h3; exact h3
def othT (pv av : Int) (i : Nat) (t : Tre) : Tre := if t.off < 0 then t else if i % 2 = 0 then ⟨0, 1 + pv % 100, 0, 0, 0, 0, t.off⟩ else ⟨1, 0, av, 1 + pv, 0, 0, av % i⟩
def othK (pv av : Int) (k : Nat) (ts : List Tre) : List Tre := ts.mapIdx fun i t => if i < k then othT pv av i t else t
theorem othK_len (pv av : Int) (k : Nat) (ts : List Tre) : (othK pv av k ts).length = ts.length := by simp [othK]
theorem othK_get {pv av : Int} {k i : Nat} {ts : List Tre} : (othK pv av k ts)[i]? = ts[i]?.map fun t => if i < k then othT pv av i t else t := by simp [othK]
theorem othK_zero (pv av : Int) (ts : List Tre) : othK pv av 0 ts = ts := by
  apply List.ext_getElem?; intro i; rw [othK_get]; simp
theorem othK_succ {pv av : Int} {k : Nat} {ts : List Tre} {t : Tre} (ht : ts[k]? = some t) : othK pv av (k + 1) ts = (othK pv av k ts).set k (othT pv av k t) := by
  apply List.ext_getElem?
  intro i
  have hl := (List.getElem?_eq_some_iff.1 ht).1
  rw [List.getElem?_set, othK_get, othK_get, othK_len]
  by_cases e : k = i
  · subst e; rw [if_pos rfl, if_pos hl, ht]; simp
  · rw [if_neg e]
    congr 1
    funext t
    by_cases h : i < k
    · rw [if_pos h, if_pos (by omega)]
    · rw [if_neg h, if_neg (by omega)]
theorem othK_at {pv av : Int} {k : Nat} {ts : List Tre} {t : Tre} (ht : ts[k]? = some t) : (othK pv av k ts)[k]? = some t := by rw [othK_get, ht]; simp
theorem othK_skip {pv av : Int} {k : Nat} {ts : List Tre} {t : Tre} (ht : ts[k]? = some t) (ho : t.off < 0) : othK pv av (k + 1) ts = othK pv av k ts := by
  rw [othK_succ ht]
  apply List.ext_getElem?
  intro i
  rw [List.getElem?_set]
  by_cases e : k = i
  · subst e; rw [if_pos rfl, othK_len, if_pos (List.getElem?_eq_some_iff.1 ht).1, othK_at ht, othT, if_pos ho]
  · rw [if_neg e]
def xPO (p : Prg) : Prg := { p with reps := [] }
def yPO (pv av : Int) (p : Prg) : Prg := { p with ts := othK pv av p.ts.length p.ts, reps := [] }
theorem yPO_get {pv av : Int} {p : Prg} {i : Nat} {u : Tre} (hu : (yPO pv av p).ts[i]? = some u) : ∃ t, p.ts[i]? = some t ∧ u = othT pv av i t := by
  have h : (othK pv av p.ts.length p.ts)[i]? = some u := hu
  rw [othK_get] at h
  obtain ⟨t, ht, e⟩ := Option.map_eq_some_iff.1 h
  rw [if_pos (List.getElem?_eq_some_iff.1 ht).1] at e
  exact ⟨t, ht, e.symm⟩
theorem OkP.oth {p : Prg} (ok : OkP (xPO p)) {pv av : Int} (hp : 0 ≤ pv ∧ pv ≤ 255) (ha : 0 ≤ av ∧ av ≤ 255) : OkP (yPO pv av p) := by
  refine ⟨ok.n4, by show (othK _ _ _ _).length ≤ 5; rw [othK_len]; exact ok.m5, by simp [yPO], ok.r0, ok.r9, ok.loss, ?_, by simp [yPO], ok.many⟩
  intro i u hu
  obtain ⟨t, ht, rfl⟩ := yPO_get hu
  have h := ok.tre i t ht
  unfold othT
  split
  · exact h
  · rename_i ho
    have hi : 0 < i := by omega
    split
    · exact ⟨treV_iff.2 ⟨by simp, by simp, .inl ⟨rfl, by simp only; omega, rfl, rfl, rfl⟩⟩, by simp only; omega, by simp only; omega⟩
    · have h1 := Int.emod_nonneg av (show (i : Int) ≠ 0 by omega)
      have h2 := Int.emod_lt_of_pos av (show (0 : Int) < i by omega)
      exact ⟨treV_iff.2 ⟨by simp, by simp, .inr ⟨rfl, rfl, by simp only; omega, by simp only; omega⟩⟩, by simp only; omega, by simp only; omega⟩
theorem oth_same {p : Prg} (ok : OkP (xPO p)) (pv : Int) {av : Int} : SameOwn p.ts (yPO pv av p).ts := by
  refine ⟨othK_len _ _ _ _, fun i t u ht hu => ?_⟩
  obtain ⟨t', ht', rfl⟩ := yPO_get hu
  rw [ht] at ht'; cases ht'
  have h := ok.tre i t ht
  unfold othT
  split
  · rename_i ho; exact ⟨Iff.rfl, fun _ => rfl⟩
  · rename_i ho
    have hi : 0 < i := by omega
    refine ⟨?_, fun h => absurd h ho⟩
    split
    · exact Iff.rfl
    · have h1 := Int.emod_nonneg av (show (i : Int) ≠ 0 by omega)
      constructor
      · intro h; omega
      · intro h; simp only at h; omega
theorem oth_net {p : Prg} (ok : OkP (xPO p)) {pv av : Int} (hp : 0 ≤ pv ∧ pv ≤ 255) (ha : 0 ≤ av ∧ av ≤ 255) : netP (yPO pv av p) = netP (xPO p) ∧ errP (xPO p) = 0 ∧ errP (yPO pv av p) = 0 := by
  have oky := ok.oth hp ha
  have hs := oth_same ok pv (av := av)
  have q1 : possO (xPO p) allT [] = true := poss_none (p := xPO p) ok
  have q2 : possO (yPO pv av p) allT [] = true := poss_none (p := yPO pv av p) oky
  refine ⟨?_, by rw [errP_ok (fault_iff.2 ok), if_pos q1], by rw [errP_ok (fault_iff.2 oky), if_pos q2]⟩
  rw [netP, netP, if_pos (fault_iff.2 ok), if_pos (fault_iff.2 oky)]
  obtain ⟨r1, h1, b1⟩ := bndO_some (fun r : (Nat → Int) × Int => r.2) (poss_iff_ne.1 q1)
  obtain ⟨r2, h2, b2⟩ := bndO_some (fun r : (Nat → Int) × Int => r.2) (poss_iff_ne.1 q2)
  rw [h1, h2]
  show r2 = r1
  have key : (fun x => ∃ a ∈ truO (yPO pv av p) allT [], a.2 = x) = (fun x => ∃ a ∈ truO (xPO p) allT [], a.2 = x) := by
    funext x
    apply propext
    constructor
    · rintro ⟨a, ha', e⟩
      obtain ⟨l, hl, e1, _⟩ := mem_truO.1 ha'
      have hl' : listedB p.losses l = true := hl
      have hsm := (pays_same (ts := p.ts) (us := (yPO pv av p).ts) ok.tre oky.tre hs allT (listed_bd ok.loss hl')).1
      exact ⟨paysS p.ts allT l, mem_truO.2 ⟨l, hl', rfl, rightO_iff.2 (by intro i x hx; simp [xPO] at hx)⟩, by rw [← e, ← e1]; exact hsm⟩
    · rintro ⟨a, ha', e⟩
      obtain ⟨l, hl, e1, _⟩ := mem_truO.1 ha'
      have hl' : listedB p.losses l = true := hl
      have hsm := (pays_same (ts := p.ts) (us := (yPO pv av p).ts) ok.tre oky.tre hs allT (listed_bd ok.loss hl')).1
      exact ⟨paysS (yPO pv av p).ts allT l, mem_truO.2 ⟨l, hl', rfl, rightO_iff.2 (by intro i x hx; simp [yPO] at hx)⟩, by rw [← e, ← e1]; exact hsm.symm⟩
  rw [key] at b2
  exact b2.unique b1
theorem pl_okO {p : Prg} {l : List Int} (ok : OkP p) (hl : listedB p.losses l = true) : playE p l = 0 ∧ playN p l = (payA p l).2 ∧ playL p l = ofF (payA p l).1 p.ts.length := by
  have h2 : playE p l = 0 := by rw [playE, if_pos (fault_iff.2 ok), hl]; rfl
  exact ⟨h2, by rw [playN, if_pos h2], by rw [playL, if_pos h2]⟩

set_option maxRecDepth 40000 in
set_option maxHeartbeats 16000000 in
theorem treatyOthers_any (p : Prg) (lp : Option Addr) (ln lc : Nat) (tp : Option Addr) (tn tc : Nat) (rp : Option Addr) (rn rc : Nat) (vv pv av : Int) (w : World) (hp : PrgAt w p lp ln tp tn rp rn) (hvv : 0 ≤ vv ∧ vv ≤ 65535) (hpv : 0 ≤ pv ∧ pv ≤ 255) (hav : 0 ≤ av ∧ av ≤ 255) (htn9 : tn ≤ 1100000) : Calls Try.prog 17 #[.agg #[.slice lp ln lc, .int .i64 p.reserve, .slice tp tn tc, .slice rp rn rc], .int .u16 vv, .int .u8 pv, .int .u8 av] w fun e w' => e = .returned (.bool true) ∧ Below w.heap.size w w' := by
  obtain ⟨V, rfl⟩ : ∃ V : Nat, vv = (V : Int) := ⟨vv.toNat, by omega⟩
  have hV : V ≤ 65535 := by omega
  obtain ⟨PV, rfl⟩ : ∃ B : Nat, pv = (B : Int) := ⟨pv.toNat, by omega⟩
  have hPV : PV ≤ 255 := by omega
  obtain ⟨AV, rfl⟩ : ∃ B : Nat, av = (B : Int) := ⟨av.toNat, by omega⟩
  have hAV : AV ≤ 255 := by omega
  have HP := hid hp
  have HTH := hid (fun W (hW : Below w.heap.size w W) => thin_any p lp ln lc tp tn tc rp rn rc W (hp.below hW))
  have HFL := hid (fun W (hW : Below w.heap.size w W) => faultL_any p lp ln lc tp tn tc rp rn rc W (hp.below hW))
  have HRD := hid (fun W (hW : Below w.heap.size w W) => ready_any p lp ln lc tp tn tc rp rn rc W (hp.below hW))
  clear hp hvv hpv hav
  have H0 : Hid (Boxed1 w #[.slice lp ln lc, .int .i64 p.reserve, .slice tp tn tc, .slice rp rn rc] 26 (w.alloc (.cells #[.slice lp ln lc, .int .i64 p.reserve, .slice tp tn tc, .slice rp rn rc] 26))) := hid (Boxed1.start _ _ _)
  go_enter Try.func17, Try.ntmps17
  clear HTH HFL HRD
  have e0 := H0.out.cell 0 (v := .slice lp ln lc) rfl; have e1 := H0.out.cell 1 (v := .int .i64 p.reserve) rfl; have e2 := H0.out.cell 2 (v := .slice tp tn tc) rfl; have e3 := H0.out.cell 3 (v := .slice rp rn rc) rfl
  go_upto_region 2 with fail
  clear e0 e1 e2 e3 
  obtain ⟨w0, hw0⟩ : ∃ V, w.alloc (.cells #[.slice lp ln lc, .int .i64 p.reserve, .slice tp tn tc, .slice rp rn rc] 26) = V := ⟨_, rfl⟩
  have hz0 : w0.heap.size = w.heap.size + 1 := by rw [← hw0]; exact World.size_alloc _ _
  rw [hw0] at H0 ⊢
  clear hw0
  obtain ⟨w1, hw1⟩ : ∃ V, w0.alloc (.cells #[.slice lp ln lc, .int .i64 p.reserve, .slice tp tn tc, .slice rp rn rc] 26) = V := ⟨_, rfl⟩
  rw [hw1]
  have hb : Below w0.heap.size w0 w1 := by rw [← hw1]; exact (Below.refl _ _).alloc (Nat.le_refl _) _
  have HX : Hid (BoxIs w0.heap.size #[.slice lp ln lc, .int .i64 p.reserve, .slice tp tn tc, .slice rp rn rc] w1) := hid (by rw [← hw1]; exact BoxIs.start _ _ _)
  have HZX := hid H0.out.size
  clear hw1
  have H1 := hid (H0.out.step hb)
  clear hb
  rw [hz0] at HX HZX
  obtain ⟨bx, hbx⟩ : ∃ b, w.heap.size + 1 = b := ⟨_, rfl⟩
  have HZQ : Hid (w.heap.size + 1 ≤ bx) := hid (by omega)
  rw [hbx] at HX ⊢
  clear hbx hz0 HZX
  have HZX := HZQ
  have HBL : Hid (bx < w1.heap.size) := hid HX.out.1
  have HOW : Hid (OwnRows cellsT 7 94 (w1.alloc (.cells #[] 94)) w1.heap.size (.slice (some ⟨w1.heap.size, 0, none⟩) 0 0) []) := hid (World.ownsRow_lit w1 #[] 0 (Nat.le_refl _) (by decide) rfl)
  have HAW : Hid (Below w1.heap.size w1 (w1.alloc (.cells #[] 94))) := hid ((Below.refl _ _).alloc (Nat.le_refl _) _)
  have HLW : Hid (w1.heap.size ≤ (w1.alloc (.cells #[] 94)).heap.size) := hid HAW.out.size
  have HLS : Hid (w1.heap.size ≤ w1.heap.size) := hid (Nat.le_refl _)
  have HPW : Hid (RowsAt cellsT 7 (w1.alloc (.cells #[] 94)) tp tn p.ts) := hid (HP.out.t.below (H1.out.below.trans (HAW.out.mono (by have := H1.out.size; omega))))
  have HWW := hid (H1.out.step HAW.out)
  have e0 := HWW.out.cell 0 (v := .slice lp ln lc) rfl; have e1 := HWW.out.cell 1 (v := .int .i64 p.reserve) rfl; have e2 := HWW.out.cell 2 (v := .slice tp tn tc) rfl; have e3 := HWW.out.cell 3 (v := .slice rp rn rc) rfl
  go_upto_region 3 with (at_builtin; refine list_append_rows cellsT_len (by decide) cellsT_one 23 94 _ 56 (by decide) Try.info94 rfl Try.und23 (by rfl) (.tmp 26) (.tmp 28) (by rfl) w1.heap.size _ [] tp tn tc p.ts HOW.out (by rfl) (by rfl) HPW.out (by simp) (by omega) HLW.out ?_; intro v9 wv h1 h2 h3; rw [List.nil_append] at h1; obtain ⟨tq, td, rfl, _⟩ := h1.slice cellsT_len; rw [← HP.out.t.1] at h1 ⊢; have HOA := hid h1; have HBV := hid (HAW.out.trans (h2.mono HLS.out)); clear h1 h2 h3; have HXv := hid (HX.out.below HBV.out); clear e0 e1 e2 e3 HWW; have k2 := (HXv.out.2 2 (.slice tp tn tc) rfl).1; have f2 := (HXv.out.2 2 (.slice tp tn tc) rfl).2; have k3 := (HXv.out.2 3 (.slice rp rn rc) rfl).1; have f3 := (HXv.out.2 3 (.slice rp rn rc) rfl).2)
  clear k2 f2 k3 f3
  replace HX := hid ((HXv.out.put (j := 3) (.slice none 0 0)).put (j := 2) (.slice tq tn td))
  have HN5 := hid (((Near.refl (fun i => i = bx) wv).setCell (p := ⟨bx, 3, none⟩) (fun _ => rfl) (.slice none 0 0)).setCell (p := ⟨bx, 2, none⟩) (fun _ => rfl) (.slice tq tn td))
  skip
  generalize ((wv.setCell ⟨bx, 3, none⟩ (.slice none 0 0)).setCell ⟨bx, 2, none⟩ (.slice tq tn td)) = w2 at HX HN5 ⊢
  have HWV := hid (H1.out.step HBV.out)
  have H2 := hid (HWV.out.step' (HN5.out.below HWV.out.size (fun i h1 h2 => by have := HZX.out; omega)))
  have HOX := hid (HOA.out.near HN5.out (fun j h1 h2 => by have := HBL.out; omega))
  clear HXv HOW HAW HLW HLS HPW HBV HWV HN5 HOA
  have HPX : Hid (PrgAt w2 (xPO p) lp ln tq tn none 0) := hid ⟨HP.out.l.below H2.out.below, by obtain ⟨_, _, e, h⟩ := HOX.out.slice cellsT_len; cases e; rw [← HP.out.t.1] at h; exact h, rows_none _⟩
  clear HOX HBL
  have x0 := (HX.out.2 0 (.slice lp ln lc) rfl).1; have x1 := (HX.out.2 1 (.int .i64 p.reserve) rfl).1; have x2 := (HX.out.2 2 (.slice tq tn td) rfl).1; have x3 := (HX.out.2 3 (.slice none 0 0) rfl).1
  go_wp2_with fail
  refine (ready_any (xPO p) lp ln lc tq tn td none 0 0 w2 HPX.out).mono ?_
  rintro e w3 ⟨rfl, hb⟩
  have H3 := hid (H2.out.step hb)
  replace HX := hid (HX.out.below hb)
  replace HPX := hid (HPX.out.below hb)
  clear hb x0 x1 x2 x3
  cases hrx : readyB (xPO p)
  · clear hrx
    go_wp2_with fail
    (with_reducible refine (awake_any _).mono ?_)
    rintro e w99 ⟨rfl, hb⟩
    go_wp2_with fail
    go_ret
    exact ⟨rfl, H3.out.below.trans (hb.mono H3.out.below.size)⟩
  · have HOK := hid (ready_iff.1 hrx).1; have HMY := hid (ready_iff.1 hrx).2
    clear hrx
    have hln : ln ≤ 4 := by have := HP.out.l.1; have : p.losses.length ≤ 4 := HOK.out.n4; omega
    have htn : tn ≤ 5 := by have := HP.out.t.1; have : p.ts.length ≤ 5 := HOK.out.m5; omega
    have x0 := (HX.out.2 0 (.slice lp ln lc) rfl).1; have x1 := (HX.out.2 1 (.int .i64 p.reserve) rfl).1; have x2 := (HX.out.2 2 (.slice tq tn td) rfl).1; have x3 := (HX.out.2 3 (.slice none 0 0) rfl).1
    go_upto_region 6 with fail
    clear x0 x1 x2 x3
    obtain ⟨w4, hw4⟩ : ∃ V, w3.alloc (.cells #[.slice lp ln lc, .int .i64 p.reserve, .slice tq tn td, .slice none 0 0] 26) = V := ⟨_, rfl⟩
    rw [hw4]
    have hb : Below w3.heap.size w3 w4 := by rw [← hw4]; exact (Below.refl _ _).alloc (Nat.le_refl _) _
    have HY : Hid (BoxIs w3.heap.size #[.slice lp ln lc, .int .i64 p.reserve, .slice tq tn td, .slice none 0 0] w4) := hid (by rw [← hw4]; exact BoxIs.start _ _ _)
    have HTQ : Hid (∀ a, tq = some a → 0 < tn → a.block < w3.heap.size) := hid (fun a ha h0 => by obtain ⟨t9, _, b9, o9, e9, h9, _⟩ := HPX.out.t.at h0; rw [e9] at ha; cases ha; exact h9)
    have HZY : Hid (bx < w3.heap.size) := hid HX.out.1
    clear hw4
    have H4 := hid (H3.out.step hb)
    replace HX := hid (HX.out.below hb)
    replace HPX := hid (HPX.out.below hb)
    clear hb
    obtain ⟨by9, hby⟩ : ∃ b, w3.heap.size = b := ⟨_, rfl⟩
    rw [hby] at HY HZY HTQ ⊢
    clear hby
    have HBL : Hid (by9 < w4.heap.size) := hid HY.out.1
    have HOW : Hid (OwnRows cellsT 7 94 (w4.alloc (.cells #[] 94)) w4.heap.size (.slice (some ⟨w4.heap.size, 0, none⟩) 0 0) []) := hid (World.ownsRow_lit w4 #[] 0 (Nat.le_refl _) (by decide) rfl)
    have HAW : Hid (Below w4.heap.size w4 (w4.alloc (.cells #[] 94))) := hid ((Below.refl _ _).alloc (Nat.le_refl _) _)
    have HLW : Hid (w4.heap.size ≤ (w4.alloc (.cells #[] 94)).heap.size) := hid HAW.out.size
    have HLS : Hid (w4.heap.size ≤ w4.heap.size) := hid (Nat.le_refl _)
    have HPW : Hid (RowsAt cellsT 7 (w4.alloc (.cells #[] 94)) tq tn p.ts) := hid (HPX.out.t.below HAW.out)
    have HXW := hid (HX.out.below HAW.out)
    have x0 := (HXW.out.2 0 (.slice lp ln lc) rfl).1; have x1 := (HXW.out.2 1 (.int .i64 p.reserve) rfl).1; have x2 := (HXW.out.2 2 (.slice tq tn td) rfl).1; have x3 := (HXW.out.2 3 (.slice none 0 0) rfl).1
    go_upto_region 7 with (at_builtin; refine list_append_rows cellsT_len (by decide) cellsT_one 23 94 _ 56 (by decide) Try.info94 rfl Try.und23 (by rfl) (.tmp 37) (.tmp 39) (by rfl) w4.heap.size _ [] tq tn td p.ts HOW.out (by rfl) (by rfl) HPW.out (by simp) (by omega) HLW.out ?_; intro v9 wv h1 h2 h3; rw [List.nil_append] at h1; obtain ⟨yq, yd, rfl, _⟩ := h1.slice cellsT_len; rw [← HP.out.t.1] at h1 ⊢; have HOA := hid h1; have HBV := hid (HAW.out.trans (h2.mono HLS.out)); clear h1 h2 h3; have HYv := hid (HY.out.below HBV.out); clear x0 x1 x2 x3 HXW; have k2 := (HYv.out.2 2 (.slice tq tn td) rfl).1; have f2 := (HYv.out.2 2 (.slice tq tn td) rfl).2)
    clear k2 f2
    have HNY := hid ((Near.refl (fun i => i = by9) wv).setCell (p := ⟨by9, 2, none⟩) (fun _ => rfl) (.slice yq tn yd))
    replace HY := hid (HYv.out.put (j := 2) (.slice yq tn yd))
    generalize (wv.setCell ⟨by9, 2, none⟩ (.slice yq tn yd)) = w5 at HY HNY ⊢
    have HB2 : Hid (Below by9 w4 w5) := hid ((HBV.out.mono (Nat.le_of_lt HBL.out)).trans (HNY.out.below (Nat.le_trans (Nat.le_of_lt HBL.out) HBV.out.size) (fun i h1 h2 => by omega)))
    have H5 := hid (H4.out.step' (HB2.out.mono (by have := HZX.out; have := HZY.out; omega)))
    skip
    replace HX := hid (HX.out.keep HB2.out HZY.out)
    have HTX : Hid (∀ a, tq = some a → 0 < tn → a.block < by9) := hid (fun a ha h0 => HTQ.out a ha h0)
    replace HPX : Hid (PrgAt w5 (xPO p) lp ln tq tn none 0) := hid ⟨HP.out.l.below H5.out.below, HPX.out.t.kept HB2.out.size (fun a ha h0 hlt => HB2.out.block _ (HTX.out a ha h0)), rows_none _⟩
    obtain ⟨gy, hgy⟩ : ∃ g, 0 < tn → (yq = some ⟨g, 0, none⟩ ∧ by9 < g ∧ BoxIs g (p.ts.flatMap cellsT).toArray w5) := by
      obtain ⟨q, c, e, h⟩ := (HOA.out.near HNY.out (fun j h1 h2 => by have := HBL.out; omega)).boxW
      have e1 : yq = q := by injection e
      subst e1
      by_cases h0 : 0 < tn
      · obtain ⟨g, h1, h2, h3⟩ := h (by rw [← HP.out.t.1]; exact h0)
        exact ⟨g, fun _ => ⟨h1, by have := HBL.out; omega, h3⟩⟩
      · exact ⟨0, fun h1 => absurd h1 h0⟩
    have HGY := hid hgy
    clear hgy HYv HOW HAW HLW HLS HPW HBV HNY HOA HBL HB2
    have hcp : IntKind.i64.wrap (PV : Int) = (PV : Int) := IntWalk.i64_in _ (by omega)
    have hca : IntKind.i64.wrap (AV : Int) = (AV : Int) := IntWalk.i64_in _ (by omega)
    have hc1 : IntKind.i64.wrap (1 + (PV : Int) % 100) = 1 + (PV : Int) % 100 := IntWalk.i64_in _ (by omega)
    have hc2 : IntKind.i64.wrap (1 + (PV : Int)) = 1 + (PV : Int) := IntWalk.i64_in _ (by omega)
    go_wp2_with fail
    go_loopw [11, 12] (fun i _ wr => ∃ j : Nat, j ≤ tn ∧ i = .int .i64 j ∧ (0 < tn → BoxIs gy ((othK PV AV j p.ts).flatMap cellsT).toArray wr) ∧ Near (fun b => b = gy ∧ 0 < tn) w5 wr) (fun i _ _ => tn - (intOf i).toNat)
    case atStart => exact ⟨0, by omega, rfl, fun h0 => by rw [othK_zero]; exact (HGY.out h0).2.2, Near.refl _ _⟩
    case round =>
      obtain ⟨j, hj, rfl, hbox, hnr⟩ := hrel
      have HBO := hid hbox; have HNR := hid hnr
      clear hbox hnr
      have HYr := hid (HY.out.far HNR.out (fun h => by have := (HGY.out h.2).2.1; have := h.1; omega))
      have y2 := (HYr.out.2 2 (.slice yq tn yd) rfl).1
      by_cases hlt : j < tn
      · skip
        have h0 : 0 < tn := by omega
        obtain ⟨e9, hg9, _⟩ := HGY.out h0
        subst e9
        obtain ⟨tt, htt⟩ : ∃ t, p.ts[j]? = some t := ⟨_, List.getElem?_eq_getElem (by rw [← HP.out.t.1]; exact hlt)⟩
        have HTT := hid htt
        have HBX := hid (HBO.out h0)
        have c6 := (HBX.out.2 (j * 7 + 6) (.int .i64 tt.off) (by simpa using flat_get cellsT_len _ j 6 tt (.int .i64 tt.off) (othK_at htt) rfl)).1
        clear htt
        have hw9 : IntKind.i64.wrap ((j : Int) + 1) = (j : Int) + 1 := IntWalk.i64_in _ (by omega)
        have hjl : j < (othK (PV : Int) AV j p.ts).length := by rw [othK_len, ← HP.out.t.1]; exact hlt
        have HJL := hid hjl
        clear hjl
        have hgz : 0 ≤ tt.off ↔ ¬ tt.off < 0 := by omega
        by_cases hof : tt.off < 0
        · have ho1 : ¬ 0 ≤ tt.off := by omega
          go_wp2_with fail
          go_roundw
          case rel => exact ⟨j + 1, by omega, by go_num, fun _ => by rw [othK_skip HTT.out hof]; exact HBX.out, HNR.out⟩
          case measure => simp [intOf]; omega
        · have ho1 : 0 ≤ tt.off := by omega
          rcases (show (j : Int) % 2 = 0 ∨ (j : Int) % 2 = 1 by omega) with hm | hm
          · skip
            go_wp2_with (refine store_row cellsT_len (by decide) cellsT_one (by rfl) 94 (.tmp 73) (.tmp 72) (by rfl) (by kernel_rfl) gy j (othK PV AV j p.ts) ((⟨0, 1 + (PV : Int) % 100, 0, 0, 0, 0, tt.off⟩ : Tre)) (by rfl) (by rfl) HBX.out HJL.out ?_; intro wx hx hn)
            have he : othT PV AV j tt = ⟨0, 1 + (PV : Int) % 100, 0, 0, 0, 0, tt.off⟩ := by rw [othT, if_neg hof, if_pos (by omega)]
            rw [← he] at hx
            have HXX := hid hx; have HNX := hid hn
            clear he hx hn
            go_roundw
            case rel => exact ⟨j + 1, by omega, by go_num, fun _ => by rw [othK_succ HTT.out]; exact HXX.out, HNR.out.trans' HNX.out (fun i _ hi => ⟨hi, h0⟩)⟩
            case measure => simp [intOf]; omega
          · skip
            have hj0 : ¬ (j : Int) = 0 := by omega
            have hj1 : ¬ j = 0 := by omega
            have htm : (AV : Int).tmod (j : Int) = (AV : Int) % (j : Int) := Int.tmod_eq_emod_of_nonneg (by omega)
            have hmb := Int.emod_nonneg (AV : Int) (show (j : Int) ≠ 0 by omega)
            have hmb2 := Int.emod_lt_of_pos (AV : Int) (show (0 : Int) < j by omega)
            have hw8 : IntKind.i64.wrap ((AV : Int) % (j : Int)) = (AV : Int) % (j : Int) := IntWalk.i64_in _ (by omega)
            go_wp2_with (refine store_row cellsT_len (by decide) cellsT_one (by rfl) 94 (.tmp 90) (.tmp 89) (by rfl) (by kernel_rfl) gy j (othK PV AV j p.ts) ((⟨1, 0, AV, 1 + PV, 0, 0, (AV : Int) % j⟩ : Tre)) (by rfl) (by rfl) HBX.out HJL.out ?_; intro wx hx hn)
            have he : othT PV AV j tt = ⟨1, 0, AV, 1 + PV, 0, 0, (AV : Int) % j⟩ := by rw [othT, if_neg hof, if_neg (by omega)]
            rw [← he] at hx
            have HXX := hid hx; have HNX := hid hn
            clear he hx hn
            go_roundw
            case rel => exact ⟨j + 1, by omega, by go_num, fun _ => by rw [othK_succ HTT.out]; exact HXX.out, HNR.out.trans' HNX.out (fun i _ hi => ⟨hi, h0⟩)⟩
            case measure => simp [intOf]; omega
      · skip
        obtain rfl : tn = j := by omega
        go_upto_region 15 with fail
        have HYE : Hid (othK PV AV tn p.ts = (yPO PV AV p).ts) := hid (by show _ = othK _ _ p.ts.length p.ts; rw [← HP.out.t.1])
        rw [HYE.out] at HBO
        have HYN : Hid ((yPO PV AV p).ts.length = tn) := hid (by show (othK _ _ _ _).length = tn; rw [othK_len]; exact HP.out.t.1.symm)
        have H6 := hid (H5.out.step' (HNR.out.below H5.out.size (fun i h1 h2 => by have := (HGY.out h2.2).2.1; have := h2.1; have := HZX.out; have := HZY.out; omega)))
        replace HX := hid (HX.out.far HNR.out (fun h => by have := (HGY.out h.2).2.1; have := h.1; have := HZY.out; omega))
        replace HPX : Hid (PrgAt wr (xPO p) lp ln tq tn none 0) := hid ⟨HP.out.l.below H6.out.below, HPX.out.t.kept HNR.out.size (fun a ha h0 hlt => HNR.out.block _ hlt (fun h => by have := (HGY.out h.2).2.1; have := h.1; have := HTQ.out a ha h0; omega)), rows_none _⟩
        have HPY : Hid (PrgAt wr (yPO PV AV p) lp ln yq tn none 0) := hid ⟨HP.out.l.below H6.out.below, by
          by_cases h0 : 0 < tn
          · have h1 := BoxIs.rows cellsT_len (HBO.out h0); rw [HYN.out] at h1; rw [(HGY.out h0).1]; exact h1
          · exact ⟨HYN.out.symm, fun i c hi => by have := (List.getElem?_eq_some_iff.1 hi).1; have := HYN.out; omega⟩, rows_none _⟩
        replace HY := HYr
        replace HY := HYr
        clear HYr HBO HNR HGY HTQ HTX y2 hcp hca hc1 hc2 HYE
        obtain ⟨w6, hw9⟩ : ∃ V, V = wr := ⟨_, rfl⟩
        subst hw9
        have HOY := hid (HOK.out.oth (pv := PV) (av := AV) (by omega) (by omega))
        have HSO := hid (oth_same HOK.out PV (av := AV))
        have HNT := hid (oth_net HOK.out (pv := PV) (av := AV) (by omega) (by omega))
        obtain ⟨M, hM⟩ : ∃ M, prodL p.losses = M := ⟨_, rfl⟩
        have hm3 : prodL p.losses ≤ 300 := HMY.out
        have hMb : 1 ≤ M ∧ M ≤ 300 := by rw [← hM]; exact ⟨HOK.out.pos, hm3⟩
        have HMN : Hid (minI 2000 (prodL p.losses) = M) := hid (by unfold minI; rw [if_pos (by omega)]; exact hM)
        obtain ⟨N0, hN0⟩ : ∃ N, (V : Int) % M = N := ⟨_, rfl⟩
        have hNb : 0 ≤ N0 ∧ N0 < M := by rw [← hN0]; exact ⟨Int.emod_nonneg _ (by omega), Int.emod_lt_of_pos _ (by omega)⟩
        have HN0 : Hid (0 ≤ N0 ∧ N0 ≤ 1000000) := hid (by omega)
        have HNQ : Hid (IntKind.i64.wrap (V : Int) = (V : Int) ∧ (V : Int).tmod M = N0 ∧ IntKind.i64.wrap N0 = N0 ∧ ¬ M = 0) := hid ⟨IntWalk.i64_in _ (by omega), by rw [Int.tmod_eq_emod_of_nonneg (by omega), hN0], IntWalk.i64_in _ (by omega), by omega⟩
        have HLS : Hid (LossOk p.losses) := hid HOK.out.loss
        have HLT9 : Hid (listedB p.losses (nthL p.losses N0) = true) := hid (nth_listed HOK.out.cnt N0 hNb.1)
        clear hM hm3 hMb hN0 hNb
        refine wp_region_held_drew (S := fun V => Boxed1 w #[.slice lp ln lc, .int .i64 p.reserve, .slice tp tn tc, .slice rp rn rc] 26 V ∧ Below w6.heap.size w6 V) (by kernel_rfl) (⟨H6.out.drew, (Below.refl _ _).drew⟩) (fun hS => ?_)
        simp only [List.size_toArray, List.length_cons, List.length_nil, Nat.reduceAdd, Array.replicate_succ, Array.replicate_zero, List.push_toArray, List.nil_append, List.cons_append]
        refine tkH (i := 0) (v := ?_) (fun V hV => ?_) ?_
        rotate_left
        · have hX := HX.out.below hV.2; have x0 := (hX.2 0 (.slice lp ln lc) rfl).1; have x1 := (hX.2 1 (.int .i64 p.reserve) rfl).1; have x2 := (hX.2 2 (.slice tq tn td) rfl).1; have x3 := (hX.2 3 (.slice none 0 0) rfl).1; go_simp
          try with_reducible rfl
        try simp only [Act.put, List.getElem_toArray, List.getElem_cons_zero, List.setIfInBounds_toArray, List.set_cons_zero, List.set_cons_succ]
        refine tkH (i := 1) (v := ?_) (fun V hV => ?_) ?_
        rotate_left
        · go_simp
          try with_reducible rfl
        try simp only [Act.put, List.getElem_toArray, List.getElem_cons_zero, List.getElem_cons_succ, List.setIfInBounds_toArray, List.set_cons_zero, List.set_cons_succ]
        refine tkH (i := 2) (v := ?_) (fun V hV => ?_) ?_
        rotate_left
        · have q1 := HNQ.out.1; have q2 := HNQ.out.2.1; have q3 := HNQ.out.2.2.1; have q4 := HNQ.out.2.2.2; go_simp
          try with_reducible rfl
        try simp only [Act.put, List.getElem_toArray, List.getElem_cons_zero, List.getElem_cons_succ, List.setIfInBounds_toArray, List.set_cons_zero, List.set_cons_succ]
        refine tkH (i := 3) (v := ?_) (fun V hV => ?_) ?_
        rotate_left
        · have hX := HX.out.below hV.2; have x0 := (hX.2 0 (.slice lp ln lc) rfl).1; have x1 := (hX.2 1 (.int .i64 p.reserve) rfl).1; have x2 := (hX.2 2 (.slice tq tn td) rfl).1; have x3 := (hX.2 3 (.slice none 0 0) rfl).1; go_simp
          try with_reducible rfl
        try simp only [Act.put, List.getElem_toArray, List.getElem_cons_zero, List.getElem_cons_succ, List.setIfInBounds_toArray, List.set_cons_zero, List.set_cons_succ]
        refine wpAnyH_ready (rs := [4]) (by kernel_rfl) (by simp) ?_
        refine AllReadyH.cons (o := _) rfl (fun K hK => ?_) AllReadyH.nil
        have hls9 : LossOk ((xPO p)).losses := HLS.out
        go_simp
        refine (many_any (xPO p) lp ln lc tq tn td none 0 0 _ (HPX.out.below hS.2) (by omega) hls9).mono ?_
        rintro e v4 ⟨rfl, hb⟩
        rw [show minI 2000 (prodL ((xPO p)).losses) = M from HMN.out]
        refine hK.out _ _ (⟨hS.1.step hb, hS.2.trans (hb.mono hS.2.size)⟩) (fun hS => ?_)
        clear hK K
        try simp only [List.setIfInBounds_toArray, List.set_cons_zero, List.set_cons_succ]
        refine tkH (i := 5) (v := ?_) (fun V hV => ?_) ?_
        rotate_left
        · have q1 := HNQ.out.1; have q2 := HNQ.out.2.1; have q3 := HNQ.out.2.2.1; have q4 := HNQ.out.2.2.2; go_simp
          try with_reducible rfl
        try simp only [Act.put, List.getElem_toArray, List.getElem_cons_zero, List.getElem_cons_succ, List.setIfInBounds_toArray, List.set_cons_zero, List.set_cons_succ]
        refine wpAnyH_ready (rs := [6]) (by kernel_rfl) (by simp) ?_
        refine AllReadyH.cons (o := _) rfl (fun K hK => ?_) AllReadyH.nil
        go_simp
        have hls9 : LossOk ((xPO p)).losses := HLS.out
        refine (nth_any (xPO p) lp ln lc tq tn td none 0 0 N0 _ (HPX.out.below hS.2) (by omega) hls9 HN0.out.1 HN0.out.2).mono ?_
        rintro e v6 ⟨v, rfl, hown, hb⟩
        obtain ⟨q9, d9, rfl, hi9⟩ := hown.slice
        have HFA9 : Hid (∀ a, q9 = some a → v4.heap.size ≤ a.block) := hid (fun a ha => by subst ha; exact (World.ownsRow.lt hown _ rfl).1)
        have HS49 := hid hS.2.size
        obtain ⟨L9, hL9⟩ : ∃ L, nthL ((xPO p)).losses N0 = L := ⟨_, rfl⟩
        rw [hL9] at hi9 ⊢
        obtain ⟨m9, hm9⟩ : ∃ m, L9.length = m := ⟨_, rfl⟩
        rw [hm9] at hi9 ⊢
        have HT9 := hid hi9; have HL9 : Hid (nthL p.losses N0 = L9) := hid hL9
        clear hi9 hown hL9 hm9
        refine hK.out _ _ (⟨hS.1.step hb, hS.2.trans (hb.mono hS.2.size)⟩) (fun hS => ?_)
        clear hK K
        try simp only [List.setIfInBounds_toArray, List.set_cons_zero, List.set_cons_succ]
        refine tkH (i := 7) (v := ?_) (fun V hV => ?_) ?_
        rotate_left
        · go_simp
          try with_reducible rfl
        try simp only [Act.put, List.getElem_toArray, List.getElem_cons_zero, List.getElem_cons_succ, List.setIfInBounds_toArray, List.set_cons_zero, List.set_cons_succ]
        refine wpAnyH_done (by kernel_rfl) ?_ _
        have H7 := hid hS.1
        replace HX := hid (HX.out.below hS.2)
        replace HY := hid (HY.out.below hS.2)
        replace HPX := hid (HPX.out.below hS.2)
        replace HPY := hid (HPY.out.below hS.2)
        clear hS
        obtain ⟨w7, hw⟩ : ∃ V, V = v6 := ⟨_, rfl⟩
        subst hw
        rw [HL9.out] at HLT9
        have hm4 : m9 ≤ 4 := by have := listed_len HLT9.out; have := HT9.out.1; have : p.losses.length ≤ 4 := HOK.out.n4; omega
        have hpx := pl_okO HOK.out (show listedB (xPO p).losses L9 = true from HLT9.out)
        have hpy := pl_okO HOY.out (show listedB (yPO PV AV p).losses L9 = true from HLT9.out)
        have HPLX := hid hpx; have HPLY := hid hpy
        have hsm := pays_same (ts := p.ts) (us := (yPO PV AV p).ts) HOK.out.tre HOY.out.tre HSO.out allT (listed_bd HOK.out.loss HLT9.out)
        have HSM : Hid ((payA (yPO PV AV p) L9).2 = (payA (xPO p) L9).2 ∧ ∀ (i : Nat) t, p.ts[i]? = some t → t.off < 0 → (payA (xPO p) L9).1 i = (payA (yPO PV AV p) L9).1 i) := hid ⟨hsm.1.symm, hsm.2⟩
        clear hpx hpy hsm
        obtain ⟨FX, hFX⟩ : ∃ f, payA (xPO p) L9 = f := ⟨_, rfl⟩
        obtain ⟨FY, hFY⟩ : ∃ f, payA (yPO PV AV p) L9 = f := ⟨_, rfl⟩
        rw [hFX] at HPLX HSM
        rw [hFY] at HPLY HSM
        clear hFX hFY
        have x0 := (HX.out.2 0 (.slice lp ln lc) rfl).1; have x1 := (HX.out.2 1 (.int .i64 p.reserve) rfl).1; have x2 := (HX.out.2 2 (.slice tq tn td) rfl).1; have x3 := (HX.out.2 3 (.slice none 0 0) rfl).1
        go_wp2_with fail
        refine (prog_any (xPO p) lp ln lc tq tn td none 0 0 w7 HPX.out (by omega) (by omega) (by omega)).mono ?_
        rintro e w8 ⟨lq1, lc1, tq1, tc1, rq1, rc1, rfl, hpx, hcx, hb⟩
        have H8 := hid (H7.out.step hb)
        replace HX := hid (HX.out.below hb)
        replace HY := hid (HY.out.below hb)
        replace HPX := hid (HPX.out.below hb)
        replace HPY := hid (HPY.out.below hb)
        replace HT9 := hid (HT9.out.below hb)
        have HP1 := hid hpx
        clear hb hpx hcx x0 x1 x2 x3
        go_wp2_with fail
        refine (list_any q9 m9 d9 L9 w8 HT9.out (by omega)).mono ?_
        rintro e w9 ⟨v, rfl, hown, hb⟩
        have H9 := hid (H8.out.step hb)
        replace HX := hid (HX.out.below hb)
        replace HY := hid (HY.out.below hb)
        replace HPX := hid (HPX.out.below hb)
        replace HPY := hid (HPY.out.below hb)
        replace HT9 := hid (HT9.out.below hb)
        replace HP1 := hid (HP1.out.below hb)
        obtain ⟨q1, d1, rfl, hi1⟩ := hown.slice
        rw [← HT9.out.1] at hi1 ⊢
        have HL1 := hid hi1
        clear hb hown hi1
        go_wp2_with fail
        refine (play_any (xPO p) lq1 ln lc1 tq1 tn tc1 rq1 0 rc1 q1 m9 d1 L9 w9 HP1.out HL1.out (by omega)).mono ?_
        rintro e w10 ⟨v, rfl, hown, hb⟩
        have H10 := hid (H9.out.step hb)
        replace HX := hid (HX.out.below hb)
        replace HY := hid (HY.out.below hb)
        replace HPX := hid (HPX.out.below hb)
        replace HPY := hid (HPY.out.below hb)
        replace HT9 := hid (HT9.out.below hb)
        replace HP1 := hid (HP1.out.below hb)
        replace HL1 := hid (HL1.out.below hb)
        rw [HPLX.out.1, HPLX.out.2.1]
        obtain ⟨qa, qad, rfl, hi2⟩ := hown.slice
        rw [HPLX.out.2.2] at hi2 ⊢
        rw [ofF_len] at hi2 ⊢
        rw [show ((xPO p)).ts.length = tn from HP.out.t.1.symm] at hi2 ⊢
        have HIqa := hid hi2
        clear hb hown hi2
        have x0 := (HY.out.2 0 (.slice lp ln lc) rfl).1; have x1 := (HY.out.2 1 (.int .i64 p.reserve) rfl).1; have x2 := (HY.out.2 2 (.slice yq tn yd) rfl).1; have x3 := (HY.out.2 3 (.slice none 0 0) rfl).1
        go_wp2_with fail
        refine (prog_any (yPO PV AV p) lp ln lc yq tn yd none 0 0 w10 HPY.out (by omega) (by omega) (by omega)).mono ?_
        rintro e w11 ⟨lq2, lc2, tq2, tc2, rq2, rc2, rfl, hpx, hcx, hb⟩
        have H11 := hid (H10.out.step hb)
        replace HX := hid (HX.out.below hb)
        replace HY := hid (HY.out.below hb)
        replace HPX := hid (HPX.out.below hb)
        replace HPY := hid (HPY.out.below hb)
        replace HT9 := hid (HT9.out.below hb)
        replace HIqa := hid (HIqa.out.below hb)
        have HP2 := hid hpx
        clear hb hpx hcx x0 x1 x2 x3
        go_wp2_with fail
        refine (list_any q9 m9 d9 L9 w11 HT9.out (by omega)).mono ?_
        rintro e w12 ⟨v, rfl, hown, hb⟩
        have H12 := hid (H11.out.step hb)
        replace HX := hid (HX.out.below hb)
        replace HY := hid (HY.out.below hb)
        replace HPX := hid (HPX.out.below hb)
        replace HPY := hid (HPY.out.below hb)
        replace HT9 := hid (HT9.out.below hb)
        replace HIqa := hid (HIqa.out.below hb)
        replace HP2 := hid (HP2.out.below hb)
        obtain ⟨q2, d2, rfl, hi1⟩ := hown.slice
        rw [← HT9.out.1] at hi1 ⊢
        have HL2 := hid hi1
        clear hb hown hi1
        go_wp2_with fail
        refine (play_any (yPO PV AV p) lq2 ln lc2 tq2 tn tc2 rq2 0 rc2 q2 m9 d2 L9 w12 HP2.out HL2.out (by omega)).mono ?_
        rintro e w13 ⟨v, rfl, hown, hb⟩
        have H13 := hid (H12.out.step hb)
        replace HX := hid (HX.out.below hb)
        replace HY := hid (HY.out.below hb)
        replace HPX := hid (HPX.out.below hb)
        replace HPY := hid (HPY.out.below hb)
        replace HT9 := hid (HT9.out.below hb)
        replace HIqa := hid (HIqa.out.below hb)
        replace HP2 := hid (HP2.out.below hb)
        replace HL2 := hid (HL2.out.below hb)
        rw [HPLY.out.1, HPLY.out.2.1]
        obtain ⟨qb, qbd, rfl, hi2⟩ := hown.slice
        rw [HPLY.out.2.2] at hi2 ⊢
        rw [ofF_len] at hi2 ⊢
        rw [show ((yPO PV AV p)).ts.length = tn from HYN.out] at hi2 ⊢
        have HIqb := hid hi2
        clear hb hown hi2
        rw [HSM.out.1]
        obtain ⟨PN, hPN⟩ : ∃ v, FX.2 = v := ⟨_, rfl⟩
        rw [hPN]
        clear hPN
        have x0 := (HX.out.2 0 (.slice lp ln lc) rfl).1; have x1 := (HX.out.2 1 (.int .i64 p.reserve) rfl).1; have x2 := (HX.out.2 2 (.slice tq tn td) rfl).1; have x3 := (HX.out.2 3 (.slice none 0 0) rfl).1
        go_wp2_with fail
        refine (prog_any (xPO p) lp ln lc tq tn td none 0 0 w13 HPX.out (by omega) (by omega) (by omega)).mono ?_
        rintro e w14 ⟨lq3, lc3, tq3, tc3, rq3, rc3, rfl, hpx, hcx, hb⟩
        have H14 := hid (H13.out.step hb)
        replace HX := hid (HX.out.below hb)
        replace HY := hid (HY.out.below hb)
        replace HPX := hid (HPX.out.below hb)
        replace HPY := hid (HPY.out.below hb)
        replace HIqa := hid (HIqa.out.below hb)
        replace HIqb := hid (HIqb.out.below hb)
        have HP3 := hid hpx
        clear hb hpx hcx x0 x1 x2 x3
        go_wp2_with fail
        refine (net_any (xPO p) lq3 ln lc3 tq3 tn tc3 rq3 0 rc3 w14 HP3.out).mono ?_
        rintro e w15 ⟨rfl, hb⟩
        have H15 := hid (H14.out.step hb)
        replace HX := hid (HX.out.below hb)
        replace HY := hid (HY.out.below hb)
        replace HPX := hid (HPX.out.below hb)
        replace HPY := hid (HPY.out.below hb)
        replace HIqa := hid (HIqa.out.below hb)
        replace HIqb := hid (HIqb.out.below hb)
        replace HP3 := hid (HP3.out.below hb)
        clear hb 
        obtain ⟨R, hR⟩ : ∃ R, netP (xPO p) = R := ⟨_, rfl⟩
        have HNR9 : Hid (netP (yPO PV AV p) = R) := hid (by rw [HNT.out.1]; exact hR)
        rw [hR, HNT.out.2.1]
        clear hR
        go_upto_region 19 with fail
        obtain ⟨w16, hw16⟩ : ∃ V, w15.alloc (.cells #[.int .i64 R.lo, .int .i64 R.hi] 51) = V := ⟨_, rfl⟩
        rw [hw16]
        have hb : Below w15.heap.size w15 w16 := by rw [← hw16]; exact (Below.refl _ _).alloc (Nat.le_refl _) _
        have HR1 : Hid (BoxIs w15.heap.size #[.int .i64 R.lo, .int .i64 R.hi] w16) := hid (by rw [← hw16]; exact BoxIs.start _ _ _)
        clear hw16
        have H16 := hid (H15.out.step hb)
        replace HX := hid (HX.out.below hb)
        replace HY := hid (HY.out.below hb)
        replace HPX := hid (HPX.out.below hb)
        replace HPY := hid (HPY.out.below hb)
        replace HIqa := hid (HIqa.out.below hb)
        replace HIqb := hid (HIqb.out.below hb)
        clear hb
        obtain ⟨bHR1, hb9⟩ : ∃ b, w15.heap.size = b := ⟨_, rfl⟩
        rw [hb9] at HR1 ⊢
        clear hb9
        have x0 := (HY.out.2 0 (.slice lp ln lc) rfl).1; have x1 := (HY.out.2 1 (.int .i64 p.reserve) rfl).1; have x2 := (HY.out.2 2 (.slice yq tn yd) rfl).1; have x3 := (HY.out.2 3 (.slice none 0 0) rfl).1
        go_wp2_with fail
        refine (prog_any (yPO PV AV p) lp ln lc yq tn yd none 0 0 w16 HPY.out (by omega) (by omega) (by omega)).mono ?_
        rintro e w17 ⟨lq4, lc4, tq4, tc4, rq4, rc4, rfl, hpx, hcx, hb⟩
        have H17 := hid (H16.out.step hb)
        replace HX := hid (HX.out.below hb)
        replace HY := hid (HY.out.below hb)
        replace HPX := hid (HPX.out.below hb)
        replace HPY := hid (HPY.out.below hb)
        replace HIqa := hid (HIqa.out.below hb)
        replace HIqb := hid (HIqb.out.below hb)
        replace HR1 := hid (HR1.out.below hb)
        have HP4 := hid hpx
        clear hb hpx hcx x0 x1 x2 x3
        go_wp2_with fail
        refine (net_any (yPO PV AV p) lq4 ln lc4 tq4 tn tc4 rq4 0 rc4 w17 HP4.out).mono ?_
        rintro e w18 ⟨rfl, hb⟩
        have H18 := hid (H17.out.step hb)
        replace HX := hid (HX.out.below hb)
        replace HY := hid (HY.out.below hb)
        replace HPX := hid (HPX.out.below hb)
        replace HPY := hid (HPY.out.below hb)
        replace HIqa := hid (HIqa.out.below hb)
        replace HIqb := hid (HIqb.out.below hb)
        replace HR1 := hid (HR1.out.below hb)
        replace HP4 := hid (HP4.out.below hb)
        clear hb 
        rw [HNR9.out, HNT.out.2.2]
        go_upto_region 20 with fail
        obtain ⟨w19, hw19⟩ : ∃ V, w18.alloc (.cells #[.int .i64 R.lo, .int .i64 R.hi] 51) = V := ⟨_, rfl⟩
        rw [hw19]
        have hb : Below w18.heap.size w18 w19 := by rw [← hw19]; exact (Below.refl _ _).alloc (Nat.le_refl _) _
        have HR2 : Hid (BoxIs w18.heap.size #[.int .i64 R.lo, .int .i64 R.hi] w19) := hid (by rw [← hw19]; exact BoxIs.start _ _ _)
        clear hw19
        have H19 := hid (H18.out.step hb)
        replace HX := hid (HX.out.below hb)
        replace HY := hid (HY.out.below hb)
        replace HPX := hid (HPX.out.below hb)
        replace HPY := hid (HPY.out.below hb)
        replace HIqa := hid (HIqa.out.below hb)
        replace HIqb := hid (HIqb.out.below hb)
        replace HR1 := hid (HR1.out.below hb)
        clear hb
        obtain ⟨bHR2, hb9⟩ : ∃ b, w18.heap.size = b := ⟨_, rfl⟩
        rw [hb9] at HR2 ⊢
        clear hb9
        have r0 := (HR1.out.2 0 (.int .i64 R.lo) rfl).1; have r1 := (HR1.out.2 1 (.int .i64 R.hi) rfl).1; have s0 := (HR2.out.2 0 (.int .i64 R.lo) rfl).1; have s1 := (HR2.out.2 1 (.int .i64 R.hi) rfl).1
        have x2 := (HX.out.2 2 (.slice tq tn td) rfl).1
        go_upto_region 22 with fail
        clear r0 r1 s0 s1 x2
        go_wp2_with fail
        go_loopw [24] (fun i wr => ∃ j : Nat, j ≤ tn ∧ i = .int .i64 j ∧ Below w19.heap.size w19 wr) (fun i _ => tn - (intOf i).toNat)
        case atStart => exact ⟨0, by omega, rfl, Below.refl _ _⟩
        case round =>
          obtain ⟨j, hj, rfl, hbw⟩ := hrel
          have HBr := hid hbw
          have HB1 := hid (H19.out.step hbw)
          have HXr := hid (HX.out.below hbw); have HPr := hid (HPX.out.below hbw); have HAr := hid (HIqa.out.below hbw); have HCr := hid (HIqb.out.below hbw)
          clear hbw
          by_cases hlt : j < tn
          · skip
            obtain ⟨tt, htt, b1, o1, etq, hb1, _, _, _, _, _, _, hc6⟩ := HPr.out.t.tre hlt
            have htt9 : p.ts[j]? = some tt := htt
            have HTT := hid htt9
            obtain ⟨b2, o2, eqa, hb2, hd⟩ := HAr.out.at hlt
            rw [ofF_at _ hlt] at hd
            obtain ⟨b3, o3, eqb, hb3, hg⟩ := HCr.out.at hlt
            rw [ofF_at _ hlt] at hg
            subst etq eqa eqb
            have HC6 : Hid (∀ V, Below wr.heap.size wr V → V.cell? ⟨b1, o1 + j * 7 + 6, none⟩ = some (.int .i64 tt.off)) := hid (fun V hV => (hV.cell (p := ⟨b1, _, none⟩) hb1).trans hc6)
            have HCD : Hid (∀ V, Below wr.heap.size wr V → V.cell? ⟨b2, o2 + j, none⟩ = some (.int .i64 (FX.1 j))) := hid (fun V hV => (hV.cell (p := ⟨b2, _, none⟩) hb2).trans hd)
            have HCG : Hid (∀ V, Below wr.heap.size wr V → V.cell? ⟨b3, o3 + j, none⟩ = some (.int .i64 (FY.1 j))) := hid (fun V hV => (hV.cell (p := ⟨b3, _, none⟩) hb3).trans hg)
            have hw9 : IntKind.i64.wrap ((j : Int) + 1) = (j : Int) + 1 := IntWalk.i64_in _ (by omega)
            clear hc6 hd hg hb1 hb2 hb3 htt htt9
            by_cases hof : tt.off < 0
            · have hfe := HSM.out.2 j tt HTT.out hof
              rw [hfe] at HCD
              clear hfe
              go_upto_region 25 with fail
              refine wp_region_held_drew (S := fun V => Boxed1 w #[.slice lp ln lc, .int .i64 p.reserve, .slice tp tn tc, .slice rp rn rc] 26 V ∧ Below wr.heap.size wr V) (by kernel_rfl) (⟨HB1.out.drew, (Below.refl _ _).drew⟩) (fun hS => ?_)
              simp only [List.size_toArray, List.length_cons, List.length_nil, Nat.reduceAdd, Array.replicate_succ, Array.replicate_zero, List.push_toArray, List.nil_append, List.cons_append]
              refine tkH (i := 0) (v := ?_) (fun V hV => ?_) ?_
              rotate_left
              · go_simp
                try with_reducible rfl
              try simp only [Act.put, List.getElem_toArray, List.getElem_cons_zero, List.setIfInBounds_toArray, List.set_cons_zero, List.set_cons_succ]
              refine tkH (i := 1) (v := ?_) (fun V hV => ?_) ?_
              rotate_left
              · have hX := HXr.out.below hV.2; have x2 := (hX.2 2 (.slice (some ⟨b1, o1, none⟩) tn td) rfl).1; go_simp
                try with_reducible rfl
              try simp only [Act.put, List.getElem_toArray, List.getElem_cons_zero, List.getElem_cons_succ, List.setIfInBounds_toArray, List.set_cons_zero, List.set_cons_succ]
              refine tkH (i := 2) (v := ?_) (fun V hV => ?_) ?_
              rotate_left
              · go_simp
                try with_reducible rfl
              try simp only [Act.put, List.getElem_toArray, List.getElem_cons_zero, List.getElem_cons_succ, List.setIfInBounds_toArray, List.set_cons_zero, List.set_cons_succ]
              refine tkH (i := 3) (v := ?_) (fun V hV => ?_) ?_
              rotate_left
              · go_simp
                try with_reducible rfl
              try simp only [Act.put, List.getElem_toArray, List.getElem_cons_zero, List.getElem_cons_succ, List.setIfInBounds_toArray, List.set_cons_zero, List.set_cons_succ]
              refine tkH (i := 4) (v := ?_) (fun V hV => ?_) ?_
              rotate_left
              · go_simp
                try with_reducible rfl
              try simp only [Act.put, List.getElem_toArray, List.getElem_cons_zero, List.getElem_cons_succ, List.setIfInBounds_toArray, List.set_cons_zero, List.set_cons_succ]
              refine tkH (i := 5) (v := ?_) (fun V hV => ?_) ?_
              rotate_left
              · have hc := HC6.out V hV.2; go_simp
                try with_reducible rfl
              try simp only [Act.put, List.getElem_toArray, List.getElem_cons_zero, List.getElem_cons_succ, List.setIfInBounds_toArray, List.set_cons_zero, List.set_cons_succ]
              refine tkH (i := 6) (v := ?_) (fun V hV => ?_) ?_
              rotate_left
              · go_simp
                try with_reducible rfl
              try simp only [Act.put, List.getElem_toArray, List.getElem_cons_zero, List.getElem_cons_succ, List.setIfInBounds_toArray, List.set_cons_zero, List.set_cons_succ]
              refine tkH (i := 7) (v := ?_) (fun V hV => ?_) ?_
              rotate_left
              · go_simp
                try with_reducible rfl
              try simp only [Act.put, List.getElem_toArray, List.getElem_cons_zero, List.getElem_cons_succ, List.setIfInBounds_toArray, List.set_cons_zero, List.set_cons_succ]
              refine tkH (i := 8) (v := ?_) (fun V hV => ?_) ?_
              rotate_left
              · go_simp
                try with_reducible rfl
              try simp only [Act.put, List.getElem_toArray, List.getElem_cons_zero, List.getElem_cons_succ, List.setIfInBounds_toArray, List.set_cons_zero, List.set_cons_succ]
              refine tkH (i := 9) (v := ?_) (fun V hV => ?_) ?_
              rotate_left
              · go_simp
                try with_reducible rfl
              try simp only [Act.put, List.getElem_toArray, List.getElem_cons_zero, List.getElem_cons_succ, List.setIfInBounds_toArray, List.set_cons_zero, List.set_cons_succ]
              refine tkH (i := 10) (v := ?_) (fun V hV => ?_) ?_
              rotate_left
              · go_simp
                try with_reducible rfl
              try simp only [Act.put, List.getElem_toArray, List.getElem_cons_zero, List.getElem_cons_succ, List.setIfInBounds_toArray, List.set_cons_zero, List.set_cons_succ]
              refine tkH (i := 11) (v := ?_) (fun V hV => ?_) ?_
              rotate_left
              · have hc := HCD.out V hV.2; go_simp
                try with_reducible rfl
              try simp only [Act.put, List.getElem_toArray, List.getElem_cons_zero, List.getElem_cons_succ, List.setIfInBounds_toArray, List.set_cons_zero, List.set_cons_succ]
              refine tkH (i := 12) (v := ?_) (fun V hV => ?_) ?_
              rotate_left
              · go_simp
                try with_reducible rfl
              try simp only [Act.put, List.getElem_toArray, List.getElem_cons_zero, List.getElem_cons_succ, List.setIfInBounds_toArray, List.set_cons_zero, List.set_cons_succ]
              refine tkH (i := 13) (v := ?_) (fun V hV => ?_) ?_
              rotate_left
              · go_simp
                try with_reducible rfl
              try simp only [Act.put, List.getElem_toArray, List.getElem_cons_zero, List.getElem_cons_succ, List.setIfInBounds_toArray, List.set_cons_zero, List.set_cons_succ]
              refine tkH (i := 14) (v := ?_) (fun V hV => ?_) ?_
              rotate_left
              · go_simp
                try with_reducible rfl
              try simp only [Act.put, List.getElem_toArray, List.getElem_cons_zero, List.getElem_cons_succ, List.setIfInBounds_toArray, List.set_cons_zero, List.set_cons_succ]
              refine tkH (i := 15) (v := ?_) (fun V hV => ?_) ?_
              rotate_left
              · have hc := HCG.out V hV.2; go_simp
                try with_reducible rfl
              try simp only [Act.put, List.getElem_toArray, List.getElem_cons_zero, List.getElem_cons_succ, List.setIfInBounds_toArray, List.set_cons_zero, List.set_cons_succ]
              refine tkH (i := 16) (v := ?_) (fun V hV => ?_) ?_
              rotate_left
              · go_simp
                try with_reducible rfl
              try simp only [Act.put, List.getElem_toArray, List.getElem_cons_zero, List.getElem_cons_succ, List.setIfInBounds_toArray, List.set_cons_zero, List.set_cons_succ]
              refine tkH (i := 17) (v := ?_) (fun V hV => ?_) ?_
              rotate_left
              · go_simp
                try with_reducible rfl
              try simp only [Act.put, List.getElem_toArray, List.getElem_cons_zero, List.getElem_cons_succ, List.setIfInBounds_toArray, List.set_cons_zero, List.set_cons_succ]
              refine wpAnyH_done (by kernel_rfl) ?_ _
              have HS9 := hid hS
              clear hS
              go_wp2_with fail
              go_roundw
              case rel => exact ⟨j + 1, by omega, by go_num, HBr.out.trans (HS9.out.2.mono HBr.out.size)⟩
              case measure => simp [intOf]; omega
            · skip
              go_upto_region 25 with fail
              refine wp_region_held_drew (S := fun V => Boxed1 w #[.slice lp ln lc, .int .i64 p.reserve, .slice tp tn tc, .slice rp rn rc] 26 V ∧ Below wr.heap.size wr V) (by kernel_rfl) (⟨HB1.out.drew, (Below.refl _ _).drew⟩) (fun hS => ?_)
              simp only [List.size_toArray, List.length_cons, List.length_nil, Nat.reduceAdd, Array.replicate_succ, Array.replicate_zero, List.push_toArray, List.nil_append, List.cons_append]
              refine tkH (i := 0) (v := ?_) (fun V hV => ?_) ?_
              rotate_left
              · go_simp
                try with_reducible rfl
              try simp only [Act.put, List.getElem_toArray, List.getElem_cons_zero, List.setIfInBounds_toArray, List.set_cons_zero, List.set_cons_succ]
              refine tkH (i := 1) (v := ?_) (fun V hV => ?_) ?_
              rotate_left
              · have hX := HXr.out.below hV.2; have x2 := (hX.2 2 (.slice (some ⟨b1, o1, none⟩) tn td) rfl).1; go_simp
                try with_reducible rfl
              try simp only [Act.put, List.getElem_toArray, List.getElem_cons_zero, List.getElem_cons_succ, List.setIfInBounds_toArray, List.set_cons_zero, List.set_cons_succ]
              refine tkH (i := 2) (v := ?_) (fun V hV => ?_) ?_
              rotate_left
              · go_simp
                try with_reducible rfl
              try simp only [Act.put, List.getElem_toArray, List.getElem_cons_zero, List.getElem_cons_succ, List.setIfInBounds_toArray, List.set_cons_zero, List.set_cons_succ]
              refine tkH (i := 3) (v := ?_) (fun V hV => ?_) ?_
              rotate_left
              · go_simp
                try with_reducible rfl
              try simp only [Act.put, List.getElem_toArray, List.getElem_cons_zero, List.getElem_cons_succ, List.setIfInBounds_toArray, List.set_cons_zero, List.set_cons_succ]
              refine tkH (i := 4) (v := ?_) (fun V hV => ?_) ?_
              rotate_left
              · go_simp
                try with_reducible rfl
              try simp only [Act.put, List.getElem_toArray, List.getElem_cons_zero, List.getElem_cons_succ, List.setIfInBounds_toArray, List.set_cons_zero, List.set_cons_succ]
              refine tkH (i := 5) (v := ?_) (fun V hV => ?_) ?_
              rotate_left
              · have hc := HC6.out V hV.2; go_simp
                try with_reducible rfl
              try simp only [Act.put, List.getElem_toArray, List.getElem_cons_zero, List.getElem_cons_succ, List.setIfInBounds_toArray, List.set_cons_zero, List.set_cons_succ]
              refine tkH (i := 6) (v := ?_) (fun V hV => ?_) ?_
              rotate_left
              · go_simp
                try with_reducible rfl
              try simp only [Act.put, List.getElem_toArray, List.getElem_cons_zero, List.getElem_cons_succ, List.setIfInBounds_toArray, List.set_cons_zero, List.set_cons_succ]
              refine tkH (i := 7) (v := ?_) (fun V hV => ?_) ?_
              rotate_left
              · go_simp
                try with_reducible rfl
              try simp only [Act.put, List.getElem_toArray, List.getElem_cons_zero, List.getElem_cons_succ, List.setIfInBounds_toArray, List.set_cons_zero, List.set_cons_succ]
              refine tkU (i := 8) ?_
              try simp only [Act.put, List.getElem_toArray, List.getElem_cons_zero, List.getElem_cons_succ, List.setIfInBounds_toArray, List.set_cons_zero, List.set_cons_succ]
              refine tkU (i := 9) ?_
              try simp only [Act.put, List.getElem_toArray, List.getElem_cons_zero, List.getElem_cons_succ, List.setIfInBounds_toArray, List.set_cons_zero, List.set_cons_succ]
              refine tkU (i := 10) ?_
              try simp only [Act.put, List.getElem_toArray, List.getElem_cons_zero, List.getElem_cons_succ, List.setIfInBounds_toArray, List.set_cons_zero, List.set_cons_succ]
              refine tkU (i := 11) ?_
              try simp only [Act.put, List.getElem_toArray, List.getElem_cons_zero, List.getElem_cons_succ, List.setIfInBounds_toArray, List.set_cons_zero, List.set_cons_succ]
              refine tkU (i := 12) ?_
              try simp only [Act.put, List.getElem_toArray, List.getElem_cons_zero, List.getElem_cons_succ, List.setIfInBounds_toArray, List.set_cons_zero, List.set_cons_succ]
              refine tkU (i := 13) ?_
              try simp only [Act.put, List.getElem_toArray, List.getElem_cons_zero, List.getElem_cons_succ, List.setIfInBounds_toArray, List.set_cons_zero, List.set_cons_succ]
              refine tkU (i := 14) ?_
              try simp only [Act.put, List.getElem_toArray, List.getElem_cons_zero, List.getElem_cons_succ, List.setIfInBounds_toArray, List.set_cons_zero, List.set_cons_succ]
              refine tkU (i := 15) ?_
              try simp only [Act.put, List.getElem_toArray, List.getElem_cons_zero, List.getElem_cons_succ, List.setIfInBounds_toArray, List.set_cons_zero, List.set_cons_succ]
              refine tkU (i := 16) ?_
              try simp only [Act.put, List.getElem_toArray, List.getElem_cons_zero, List.getElem_cons_succ, List.setIfInBounds_toArray, List.set_cons_zero, List.set_cons_succ]
              refine tkH (i := 17) (v := ?_) (fun V hV => ?_) ?_
              rotate_left
              · go_simp
                try with_reducible rfl
              try simp only [Act.put, List.getElem_toArray, List.getElem_cons_zero, List.getElem_cons_succ, List.setIfInBounds_toArray, List.set_cons_zero, List.set_cons_succ]
              refine wpAnyH_done (by kernel_rfl) ?_ _
              have HS9 := hid hS
              clear hS
              go_wp2_with fail
              go_roundw
              case rel => exact ⟨j + 1, by omega, by go_num, HBr.out.trans (HS9.out.2.mono HBr.out.size)⟩
              case measure => simp [intOf]; omega
          · skip
            obtain rfl : tn = j := by omega
            clear HBr HXr HPr HAr HCr
            obtain ⟨w20, hw⟩ : ∃ V, V = wr := ⟨_, rfl⟩
            subst hw
            have H20 := HB1
            go_wp2_with fail
            (with_reducible refine (awake_any _).mono ?_)
            rintro e w99 ⟨rfl, hb⟩
            go_wp2_with fail
            go_ret
            exact ⟨rfl, H20.out.below.trans (hb.mono H20.out.below.size)⟩
end Go.Proofs.Ytaioobhblfnlaaa
