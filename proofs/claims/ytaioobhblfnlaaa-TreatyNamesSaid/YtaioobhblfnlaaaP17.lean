/- Package treaty: the smallest set of reports. No condition. -/
import Derived.Test.YtaioobhblfnlaaaP16
import Derived.WalkMore
namespace Go.Proofs.Ytaioobhblfnlaaa
open Go.RowKit

attribute [local go_sem] Oper.semAt_some
/-- append(out, l...) inside a fence. -/
theorem appendIn_rows {F : Fence} {N : Nat} {α : Type} {enc : α → List Value} {z : Nat} (hz : ∀ c, (enc c).length = z) (h0 : 0 < z) (hone : ∀ c, ∀ u ∈ enc c, u.oneCell' = true) (sl T : TypeId) (zero : Value) (bytes : Nat) (hby : bytes ≤ 1000)
    (hinfo : (Try.prog.info? T).map (fun i => (i.zero, i.size, i.bytes)) = some (some zero, z, bytes)) (hzero : zero.cells.size = z) (hund : Try.prog.underlying sl = some (.slice T))
    {ops : Array Oper} {rest : List Oper} {o : Oper} {a : Act} {w : World} {Q : Exit → Act → World → Prop} (hgd : o.guard = none) (s x : Operand)
    (ho : o.op = .call { callee := .builtin .append, args := #[s, x], argTypes := #[sl, sl] })
    (base : Nat) (v : Value) (l : List α) (ad : Addr) (m c : Nat) (y : List α) (hown : OwnRows enc z T w base v l) (hs : a.eval s = v) (hx : a.eval x = .slice (some ad) m c) (hy : RowsAt enc z w (some ad) m y)
    (hlen : l.length ≤ 1000000) (hm : m ≤ 1000000) (hbase : base ≤ w.heap.size)
    (h : ∀ v' w', OwnRows enc z T w' base v' (l ++ y) → Below base w w' → (∀ k, k < w.heap.size → some k ≠ v.ownBlock → w'.heap[k]? = w.heap[k]?) → wpListIn F N Try.prog ops Q rest (a.put o.dst v') w') :
    wpListIn F N Try.prog ops Q (o :: rest) a w := by
  obtain ⟨i0, hi, hz0, hz1, hz2⟩ := info_parts hinfo
  refine wpListIn_append_own w hgd s x sl ho base T i0 zero z bytes hund hi hz0 hz1 hz2 hzero h0 v l.length _ hs hown ad m c (y.flatMap enc) hx (by rw [flat_len hz, hy.1]) ?_ ?_ (by unfold maxLen; omega) ?_ hbase ?_
  · intro j u hj
    obtain ⟨k, hk, hu⟩ := flat_get' hz h0 y j u hj
    obtain ⟨b, off, e, hlt, q⟩ := hy.2 (j / z) k hk
    cases e
    have e : (⟨b, off, none⟩ : Addr).add j = ⟨b, off + j / z * z + j % z, none⟩ := by
      have e : (⟨b, off, none⟩ : Addr).add j = ⟨b, off + j, none⟩ := by unfold Addr.add; split <;> simp_all
      rw [e]
      have := Nat.div_add_mod' j z
      rw [show off + j = off + j / z * z + j % z by omega]
    rw [e]
    exact q _ _ hu
  · intro u hu
    obtain ⟨k, _, hk⟩ := List.mem_flatMap.1 hu
    exact hone k u hk
  · have : (l.length + m) * bytes ≤ 2000000 * 1000 := Nat.mul_le_mul (by omega) hby
    omega
  · intro v' w' h1 h2 _
    refine h v' w' ?_ ?_ fun k hk hne => h2.block k hk hne
    · unfold OwnRows
      rw [List.length_append, ← hy.1, List.flatMap_append]
      exact h1
    · refine (Below.refl base w).grown h2 hbase ?_
      intro k hk
      exact (World.ownsRow.lt hown k hk).1

theorem Try.info151 : (Try.prog.info? 151).map (fun i => (i.zero, i.size, i.bytes)) = some (some (.agg #[.bool false, .bool false, .bool false, .bool false, .bool false]), 5, 5) := by kernel_rfl
theorem Try.und147 : Try.prog.underlying 147 = some (.slice 151) := by kernel_rfl
theorem x_lit {w : World} (x : Nat → Bool) (T : TypeId) : RowsAt cellsX 5 (w.alloc (.cells #[.bool (x 0), .bool (x 1), .bool (x 2), .bool (x 3), .bool (x 4)] T)) (some ⟨w.heap.size, 0, none⟩) 1 [x] := by
  refine ⟨rfl, fun i c hi => ⟨w.heap.size, 0, rfl, by simp, fun j v hj => ?_⟩⟩
  have hi0 : i = 0 := by have := (List.getElem?_eq_some_iff.1 hi).1; simp at this; omega
  subst hi0
  cases hi
  rw [show 0 + 0 * 5 + j = j by omega]
  exact cell_box w _ T j v (by simpa [cellsX] using hj)
theorem eq151 (a0 a1 a2 a3 a4 b0 b1 b2 b3 b4 : Bool) (w : World) : (Op.equalIn 10000 151 (.agg #[.bool a0, .bool a1, .bool a2, .bool a3, .bool a4]) (.agg #[.bool b0, .bool b1, .bool b2, .bool b3, .bool b4])).run Try.prog w = .ok ((a0 == b0) && ((a1 == b1) && ((a2 == b2) && ((a3 == b3) && (a4 == b4))))) w := by
  have h1 : ∀ (a b : Bool) (w : World), (Op.equalIn 9999 4 (.bool a) (.bool b)).run Try.prog w = .ok (a == b) w := by
    intro a b w
    cases a <;> cases b <;> kernel_rfl
  have hu : Try.prog.underlying 151 = some (.array 5 4) := by kernel_rfl
  have ha : ∀ w, (isAgg 4).run Try.prog w = .ok false w := fun w => by kernel_rfl
  unfold Op.equalIn
  simp only [go_sem]
  simp [List.range', go_sem, ha, h1, Result.andThen]
  by_cases e0 : a0 = b0
  · by_cases e1 : a1 = b1
    · by_cases e2 : a2 = b2
      · by_cases e3 : a3 = b3
        · by_cases e4 : a4 = b4
          · simp [e0, e1, e2, e3, e4, go_sem, ha, h1, Result.andThen]
          · simp [e0, e1, e2, e3, e4, go_sem, ha, h1, Result.andThen]
        · simp [e0, e1, e2, e3, go_sem, ha, h1, Result.andThen]
      · simp [e0, e1, e2, go_sem, ha, h1, Result.andThen]
    · simp [e0, e1, go_sem, ha, h1, Result.andThen]
  · simp [e0, go_sem]
theorem neq151 (a0 a1 a2 a3 a4 b0 b1 b2 b3 b4 : Bool) (w : World) : (binOp .neq 151 (.agg #[.bool a0, .bool a1, .bool a2, .bool a3, .bool a4]) (.agg #[.bool b0, .bool b1, .bool b2, .bool b3, .bool b4])).run Try.prog w = .ok (.bool (!((a0 == b0) && ((a1 == b1) && ((a2 == b2) && ((a3 == b3) && (a4 == b4))))))) w := by
  have h := eq151 a0 a1 a2 a3 a4 b0 b1 b2 b3 b4 w
  unfold binOp
  simp only [Sem.run_bind]
  show ((Sem.run Try.prog (Op.equalIn 10000 151 _ _) w).andThen _) = _
  rw [h]
  simp [Result.andThen]
theorem wp_tame {P : Program} {c : Code} {Q : Exit → Act → World → Prop} {a : Act} {w : World} (h : c.wp P (NQ Q) a w) : c.wp P Q a w :=
  (wpIn_wide (n := 22)).1 (wpIn_tame ((wpIn_wide (n := 22)).2 h))
theorem ints_put {W : World} {p : Option Addr} {n : Nat} {l : List Int} {b : Nat} {o : Obj} (h : IntsAt W p n l) (hk : W.heap[b]? = some (.deferred (some []))) : IntsAt (W.putObj b o) p n l := by
  refine ⟨h.1, fun i hi => ?_⟩
  obtain ⟨g, f, e, hc⟩ := h.2 i hi
  refine ⟨g, f, e, ((Near.putObj b o).cell (p := ⟨g, f + i, none⟩) (World.block_lt_of_cell? _ _ hc) (fun hg => ?_)).trans hc⟩
  have hg2 : g = b := hg
  subst hg2
  simp [World.cell?, hk] at hc
noncomputable def leaveV (p : Prg) : List Int := if faultP p = 0 then leaveP p else []
def LeavePost (p : Prg) (w : World) : Ending → World → Prop := fun e w' => ∃ q k d, e = .returned (.tuple #[.slice q k d, .int .i64 (faultP p)]) ∧ IntsAt w' q k (leaveV p) ∧ Below w.heap.size w w'

set_option maxRecDepth 100000 in
set_option maxHeartbeats 16000000 in
theorem leave_any (p : Prg) (lp : Option Addr) (ln lc : Nat) (tp : Option Addr) (tn tc : Nat) (rp : Option Addr) (rn rc : Nat) (w : World) (hp : PrgAt w p lp ln tp tn rp rn) : Calls Try.prog 44 #[.agg #[.slice lp ln lc, .int .i64 p.reserve, .slice tp tn tc, .slice rp rn rc]] w (LeavePost p w) := by
  have HC := hid (fun W (hW : Below w.heap.size w W) => check_any p lp ln lc tp tn tc rp rn rc W (hp.below hW))
  have HP := hid hp
  have HRN := hid hp.r.1
  clear hp
  have H0 : Hid (Boxed1 w #[.slice lp ln lc, .int .i64 p.reserve, .slice tp tn tc, .slice rp rn rc] 37 (w.alloc (.cells #[.slice lp ln lc, .int .i64 p.reserve, .slice tp tn tc, .slice rp rn rc] 37))) := hid (Boxed1.start _ _ _)
  refine (callsIn_wide (n := 22)).1 ?_
  refine callsIn_of_wp_marks Try.func44 rfl trivial ?_ rfl
  simp only [Try.ntmps44, List.size_toArray, List.length_cons, List.length_nil, Nat.reduceAdd, Nat.reduceSub, Array.replicate_succ, Array.replicate_zero, List.push_toArray, List.append_toArray, List.nil_append, List.cons_append]
  refine wpIn_wide.2 ?_
  go_wp2_with fail
  go_step3
  go_wp2_with fail
  (with_reducible refine (HC.out _ H0.out.below).mono ?_)
  rintro e w1 ⟨rfl, hb⟩
  have H1 := hid (H0.out.step (hb.mono (by simp)))
  clear hb H0
  by_cases h0 : faultP p = 0
  · have HOK := hid (fault_iff.1 h0)
    have HF0 := hid h0
    have HLV : Hid (leaveV p = leaveP p) := hid (by rw [leaveV, if_pos h0])
    have hr5 : rn ≤ 5 := by rw [HRN.out]; exact HOK.out.k5
    rw [h0]
    clear h0
    obtain ⟨w2, hw2⟩ : ∃ V, w1.alloc (.cells #[.slice none 0 0] 27) = V := ⟨_, rfl⟩
    have hb2 : Below w1.heap.size w1 w2 := by rw [← hw2]; exact (Below.refl _ _).alloc (Nat.le_refl _) _
    have HE2 : Hid (BoxIs w1.heap.size #[.slice none 0 0] w2) := hid (by rw [← hw2]; exact BoxIs.start _ _ _)
    have H2 := hid (H1.out.step hb2)
    have HS1 := hid H1.out.size
    have HZ2 : Hid (w2.heap.size = w1.heap.size + 1) := hid (by rw [← hw2]; simp)
    have e3 := H2.out.cell 3 (v := .slice rp rn rc) rfl
    clear hb2
    go_wp2_with fail
    clear e3 hw2
    go_loopw [23] (fun i wr => ∃ (k : Nat) (v : Value), k ≤ rn ∧ i = .int .i64 k ∧ BoxIs w1.heap.size #[v] wr ∧ OwnInts wr (w1.heap.size + 1) v (everyL k) ∧ Boxed1 w #[.slice lp ln lc, .int .i64 p.reserve, .slice tp tn tc, .slice rp rn rc] 37 wr) (fun i _ => rn - (intOf i).toNat)
    case atStart => exact ⟨0, .slice none 0 0, by omega, rfl, HE2.out, ownInts_nil _ _, H2.out⟩
    case round =>
      clear HE2 H2
      obtain ⟨k, v, hk, rfl, hx, ho, h3⟩ := hrel
      obtain ⟨q5, d5, rfl, heq⟩ := ho.slice
      have HEQ := hid heq
      clear heq
      have HX := hid hx; have HO := hid ho; have H3 := hid h3
      clear hx ho h3
      by_cases hlt : k < rn
      · have hle : (everyL k).length ≤ 1000000 := by rw [everyL_len]; omega
        have hsz : w1.heap.size + 1 ≤ wr.heap.size := HX.out.1
        have ho := HO.out
        have x0 := (HX.out.2 0 _ rfl).1
        go_wp2_with (at_builtin; refine append_int (by rfl) _ _ (by rfl) (w1.heap.size + 1) _ (everyL k) _ ho (by rfl) (by rfl) hle hsz ?_; intro v' w' h1 h2; obtain ⟨q', c', e', _⟩ := h1.slice; subst e'; have hbx := HX.out.keep h2 (by omega); have s0 := (hbx.2 0 _ rfl).1; have s1 := (hbx.2 0 _ rfl).2)
        have e9 : (everyL k ++ [(k : Int)]).length = (everyL k).length + 1 := by simp
        rw [e9] at h1
        have H4 := hid (H3.out.step' (h2.mono (by have := HS1.out; omega)))
        have hn := near_one (S := fun i => i = w1.heap.size) (W := w') (o := 0) rfl (.slice q' ((everyL k).length + 1) c')
        go_roundw
        case rel => exact ⟨k + 1, _, by omega, by go_num, hbx.put (j := 0) _, by rw [everyL_succ]; exact row_block h1 (fun g hg => hn.block g (World.ownsRow.lt h1 g hg).2 (by have := (World.ownsRow.lt h1 g hg).1; omega)), H4.out.step' (hn.below H4.out.size (fun i h1 h2 => by have := HS1.out; omega))⟩
        case measure => simp [intOf]; omega
      · have hkn : k = rn := by omega
        subst hkn
        obtain ⟨wo, rfl⟩ : ∃ wo : World, wo = wr := ⟨_, rfl⟩
        skip
        have HE := hid (everyL_len k)
        have HQ := hid HO.out.slice
        have HSX := hid HX.out.1
        obtain ⟨w3, hw3⟩ : ∃ V, wo.alloc (.cells #[.slice none 0 0] 147) = V := ⟨_, rfl⟩
        have hb3 : Below wo.heap.size wo w3 := by rw [← hw3]; exact (Below.refl _ _).alloc (Nat.le_refl _) _
        have HK3 : Hid (BoxIs wo.heap.size #[.slice none 0 0] w3) := hid (by rw [← hw3]; exact BoxIs.start _ _ _)
        have H4 := hid (H3.out.step hb3)
        have HX3 := hid (HX.out.below hb3)
        have HO3 := hid (HO.out.below hb3)
        clear hb3 HX HO H3 HQ
        go_upto_region 11 with fail
        clear hw3
        refine wp_tame ?_
        obtain ⟨U0, hwd⟩ : ∃ V, w3.drew = V := ⟨_, rfl⟩
        have HU0 : Hid (Below w3.heap.size w3 U0) := hid (by rw [← hwd]; exact (Below.refl _ _).drew)
        refine wp_region_held_drew (S := fun V => Boxed1 w #[.slice lp ln lc, .int .i64 p.reserve, .slice tp tn tc, .slice rp k rc] 37 V ∧ BoxIs w1.heap.size #[.slice q5 (everyL k).length d5] V ∧ BoxIs wo.heap.size #[.slice none 0 0] V ∧ OwnInts V (w1.heap.size + 1) (.slice q5 (everyL k).length d5) (everyL k) ∧ wo.heap.size < V.heap.size) (by kernel_rfl) (by rw [hwd]; exact ⟨H4.out.step HU0.out, HX3.out.below HU0.out, HK3.out.below HU0.out, HO3.out.below HU0.out, Nat.lt_of_lt_of_le HK3.out.1 HU0.out.size⟩) (fun hS => ?_)
        rw [hwd] at hS ⊢
        clear hwd
        simp only [List.size_toArray, List.length_cons, List.length_nil, Nat.reduceAdd, Array.replicate_succ, Array.replicate_zero, List.push_toArray, List.nil_append, List.cons_append]
        refine wpAnyH_take (i := 0) (v := ?_) rfl (by kernel_rfl) (by kernel_rfl) (by kernel_rfl) (nq_panic _ _) (Or.inl ⟨by rfl, fun V hV => ?_⟩) (by assumption) ?_
        rotate_left
        · have e0 := hV.1.cell 0 (v := .slice lp ln lc) rfl; have e1 := hV.1.cell 1 (v := .int .i64 p.reserve) rfl; have e2 := hV.1.cell 2 (v := .slice tp tn tc) rfl; have e3 := hV.1.cell 3 (v := .slice rp k rc) rfl; go_simp
          try with_reducible rfl
        try simp only [Act.put, List.getElem_toArray, List.getElem_cons_zero, List.setIfInBounds_toArray, List.set_cons_zero, List.set_cons_succ]
        refine wpAnyH_take (i := 2) (v := ?_) rfl (by kernel_rfl) (by kernel_rfl) (by kernel_rfl) (nq_panic _ _) (Or.inl ⟨by rfl, fun V hV => ?_⟩) (by assumption) ?_
        rotate_left
        · have e0 := (hV.2.1.2 0 _ rfl).1; go_simp
          try with_reducible rfl
        try simp only [Act.put, List.getElem_toArray, List.getElem_cons_zero, List.getElem_cons_succ, List.setIfInBounds_toArray, List.set_cons_zero, List.set_cons_succ]
        refine wpAnyH_ready (rs := [1]) (by kernel_rfl) (by simp) ?_
        refine AllReadyH.cons (o := _) rfl (fun K hK => ?_) AllReadyH.nil
        go_simp
        (with_reducible refine (work_any p lp ln lc tp tn tc rp k rc _).mono ?_)
        rintro e v1 ⟨rfl, hbx, hmv, hb⟩
        have HPU := hid (HP.out.below hS.1.below)
        have HWK := hid (wkS_of HPU.out hbx hmv hb)
        have HM := hid (notM_of HPU.out (Nat.le_succ U0.heap.size))
        have HSU : Hid (wo.heap.size < U0.heap.size) := hid hS.2.2.2.2
        have HSV1 := hid HWK.out.box.1
        clear hbx hmv
        refine hK.out _ _ (⟨hS.1.step hb, hS.2.1.below hb, hS.2.2.1.below hb, hS.2.2.2.1.below hb, Nat.lt_of_lt_of_le hS.2.2.2.2 hb.size⟩) (fun hS => ?_)
        clear hK K
        try simp only [List.setIfInBounds_toArray, List.set_cons_zero, List.set_cons_succ]
        refine wpAnyH_ready (rs := [3]) (by kernel_rfl) (by simp) ?_
        refine AllReadyH.cons (o := _) rfl (fun K hK => ?_) AllReadyH.nil
        go_simp
        (with_reducible refine (truths_any _ _ _ _ _).mono ?_)
        rintro e v3 ⟨rfl, rfl⟩
        obtain ⟨v2, hv2⟩ : ∃ V, v1.alloc (.cells #[.pointer (some ⟨(U0.heap.size + 2), 0, none⟩)] 119) = V := ⟨_, rfl⟩
        obtain ⟨v3, hv3⟩ : ∃ V, v2.alloc (.cells #[.slice q5 (everyL k).length d5] 27) = V := ⟨_, rfl⟩
        have hb2 : Below v1.heap.size v1 v2 := by rw [← hv2]; exact (Below.refl _ _).alloc (Nat.le_refl _) _
        have hb3 : Below v2.heap.size v2 v3 := by rw [← hv3]; exact (Below.refl _ _).alloc (Nat.le_refl _) _
        have hz2 : v2.heap.size = v1.heap.size + 1 := by rw [← hv2]; simp
        have hz3 : v3.heap.size = v1.heap.size + 2 := by rw [← hv3]; simp; omega
        have HSRC : Hid (SrcT v3 p lp ln lc tp tn tc rp k rc allT (U0.heap.size + 2) (U0.heap.size + 1) 0 v1.heap.size (v1.heap.size + 1) q5 (everyL k).length d5 (everyL k)) := hid ⟨(HWK.out.below HM.out hb2).below HM.out hb3, (hb3.cell (p := ⟨v1.heap.size, 0, none⟩) (show v1.heap.size < v2.heap.size by omega)).trans (by rw [← hv2]; exact cell_box v1 _ 119 0 _ rfl), (by have h := cell_box v2 #[.slice q5 (everyL k).length d5] 27 0 _ rfl; rw [hv3, hz2] at h; exact h), by obtain ⟨p9, c9, e9, h9⟩ := ((hS.2.2.2.1.below hb2).below hb3).slice; cases e9; exact h9⟩
        have HB13 := hid ((hb2.mono (Nat.le_refl _)).trans (hb3.mono (by omega)))
        rw [hv2, hv3]
        have HZ3 := hid hz3
        clear hb2 hb3 hz2 hv2 hv3 hz3
        refine hK.out _ _ (⟨hS.1.step HB13.out, hS.2.1.below HB13.out, hS.2.2.1.below HB13.out, hS.2.2.2.1.below HB13.out, Nat.lt_of_lt_of_le hS.2.2.2.2 HB13.out.size⟩) (fun hS => ?_)
        clear hK K
        try simp only [List.setIfInBounds_toArray, List.set_cons_zero, List.set_cons_succ]
        refine wpAnyH_done (by kernel_rfl) ?_ _
        refine ⟨rfl, ?_⟩
        have HS := hid hS
        clear hS
        go_wp2_with fail
        have HEI : Hid (IntsAt w3 q5 (everyL k).length (everyL k)) := hid (by obtain ⟨p9, c9, e9, h9⟩ := HO3.out.slice; cases e9; exact h9)
        have HEB : Hid (∀ i, InS q5 (everyL k).length i → i < wo.heap.size) := hid (fun i hi => ints_lt HEQ.out hi)
        have HZU : Hid (w3.heap.size ≤ U0.heap.size) := hid HU0.out.size
        have HZW : Hid (wo.heap.size < w3.heap.size) := hid HK3.out.1
        have HO : Hid (¬ InS q5 (everyL k).length (U0.heap.size + 1)) := hid (fun h => by have := HEB.out _ h; have := HZU.out; have := HZW.out; omega)
        have HG := hid (truths_gives p lp ln lc tp tn tc rp k rc allT (U0.heap.size + 2) (U0.heap.size + 1) 0 v1.heap.size (v1.heap.size + 1) q5 (everyL k).length d5 (everyL k) v3 21 HOK.out HSRC.out HM.out HO.out (by unfold maxLen; omega) (by rw [HE.out]; omega))
        have HWS : Hid (w.heap.size + 1 ≤ wo.heap.size) := hid (by have h1 := HSX.out; have h2 := HS1.out; omega)
        have HRD : Hid (∀ i, RdT (U0.heap.size + 2) (U0.heap.size + 1) v1.heap.size (v1.heap.size + 1) lp ln tp tn rp k q5 (everyL k).length i → i < v3.heap.size ∧ i ≠ wo.heap.size) := hid (fun i hi => by
          have a1 := HZ3.out; have a2 := HSV1.out; have a3 := HZU.out; have a4 := HZW.out; have a5 := HWS.out
          rcases hi with (rfl | rfl | h | h | h) | rfl | rfl | h
          · omega
          · omega
          · have := rows_lt HP.out.l h; omega
          · have := rows_lt HP.out.t h; omega
          · have := rows_lt HP.out.r h; omega
          · omega
          · omega
          · have := HEB.out _ h; omega)
        have H3v : Hid (Boxed1 w #[.slice lp ln lc, .int .i64 p.reserve, .slice tp tn tc, .slice rp k rc] 37 v3) := hid HS.out.1
        have HX3v : Hid (BoxIs w1.heap.size #[.slice q5 (everyL k).length d5] v3) := hid HS.out.2.1
        have HK3v : Hid (BoxIs wo.heap.size #[.slice none 0 0] v3) := hid HS.out.2.2.1
        have HZB : Hid (U0.heap.size + 2 < v1.heap.size) := hid HSV1.out
        have HBM : Hid (U0.heap.size + 1 < v3.heap.size) := hid (by have := HZ3.out; have := HZB.out; omega)
        have HBW : Hid (∀ V, Near (fun i => i = U0.heap.size + 1 ∨ i = wo.heap.size ∨ v3.heap.size ≤ i) v3 V → Below w.heap.size w V ∧ Boxed1 w #[.slice lp ln lc, .int .i64 p.reserve, .slice tp tn tc, .slice rp k rc] 37 V ∧ BoxIs w1.heap.size #[.slice q5 (everyL k).length d5] V ∧ IntsAt V q5 (everyL k).length (everyL k)) := hid (fun V hn => by
          have a1 := HWS.out; have a3 := HZU.out; have a4 := HZW.out; have a5 := HBM.out; have a6 := HSX.out
          have h1 := H3v.out.step' (hn.below (B := w.heap.size + 1) H3v.out.size (fun i h1 h2 => by omega))
          refine ⟨h1.below, h1, HX3v.out.far hn (by omega), ?_⟩
          have h2 := HSRC.out.ou
          exact h2.kept (fun a ha h0 hlt => hn.block _ hlt (fun h3 => by have := HEB.out a.block ⟨a, ha, h0, rfl⟩; omega)))
        clear HS HU0 H4 HX3 HO3 HK3
        refine (wpIn_wide (n := 22)).1 ?_
        refine wpIn_rangeFunc_near6 rfl (by omega) (gf := 119) (lb := #[.pointer (some ⟨v1.heap.size, 0, none⟩), .pointer (some ⟨(v1.heap.size + 1), 0, none⟩)]) rfl trivial (enters_of Try.func119 (by kernel_rfl) rfl) HG.out (fun V1 V2 h hn => h.near HM.out hn (fun i hi hi2 => by have := (HRD.out i (.inl hi)).1; omega)) (Below.refl _ _)
          (fun i hi => (HRD.out i hi).1) (fun i hi => by have := HBM.out; omega) (fun i => i = wo.heap.size ∨ v3.heap.size + 10 ≤ i) (fun i hi => ⟨by have := HZW.out; have := HZU.out; have := HBM.out; omega, fun h => by have h1 := HRD.out i h; omega⟩)
          (fun pre V => Near (fun i => i = U0.heap.size + 1 ∨ i = wo.heap.size ∨ v3.heap.size ≤ i) v3 V ∧ ∃ v, BoxIs wo.heap.size #[v] V ∧ OwnRows cellsX 5 151 V (v3.heap.size + 10) v (knownL p pre))
          (fun pre V => False)
          (fun pre V1 V2 h hn => by
            obtain ⟨h1, v, h2, h3⟩ := h
            exact ⟨h1.trans (hn.mono (fun i _ hi => by omega)), v, h2.far hn (by have := HZW.out; have := HZU.out; have := HBM.out; omega), h3.block fun g hg => hn.block g (h3.lt g hg).2 (by have h8 := (h3.lt g hg).1; have := HBM.out; omega)⟩)
          (fun pre V1 V2 h hn => h)
          ⟨Near.refl _ _, _, HK3v.out, ownRows_nil _ _ _ _ _⟩ ?round ?done ?stop
        case round =>
          rintro pre x rest V v hall hsz hE ⟨hn, v5, hx, ho⟩
          obtain ⟨f, kp⟩ := x
          have hE2 : v = .agg (resC f kp) := hE
          subst hE2
          obtain ⟨q6, d6, rfl, _⟩ := OwnRows.slice cellsX_len ho
          have hpl : pre.length ≤ 1500 := by
            have h1 : (truO p allT (everyL k)).length ≤ (listsL p.losses).length := by unfold truO; exact Nat.le_trans (List.length_filter_le _ _) (by simp)
            have h2 := lists_len HOK.out
            rw [hall] at h1
            simp at h1; omega
          have HPL := hid hpl
          have HKS := hid (known_snoc p pre (f, kp))
          have HKL := hid (known_len p pre)
          obtain ⟨K, hK⟩ : ∃ K, knownL p pre = K := ⟨_, rfl⟩
          rw [hK] at ho HKS HKL hx
          clear hK hpl
          have HX := hid hx; have HN := hid hn; have HOW := hid ho; have HSZ := hid hsz
          clear hx hn ho hE hall hsz
          unfold resC
          skip
          gi_wp2
          refine ⟨(Near.refl _ _).alloc _, fun V2 hn2 => ?_⟩
          have hn3 : Near (fun i => i = v3.heap.size + 1) V V2 := ((Near.refl _ _).alloc _).trans hn2
          have HF2 : Hid (BoxIs V.heap.size #[.int .i64 (f 0), .int .i64 (f 1), .int .i64 (f 2), .int .i64 (f 3), .int .i64 (f 4), .int .i64 kp] V2) := hid ((BoxIs.start V #[.int .i64 (f 0), .int .i64 (f 1), .int .i64 (f 2), .int .i64 (f 3), .int .i64 (f 4), .int .i64 kp] 118).far hn2 (by have := HSZ.out; omega))
          have HN2 := hid (HN.out.trans (hn3.mono (fun i _ hi => by omega)))
          have HX2 := hid (HX.out.far hn3 (by have := HZW.out; have := HZU.out; have := HBM.out; omega))
          have HOW2 := hid (HOW.out.block fun g hg => hn3.block g (HOW.out.lt g hg).2 (by have := (HOW.out.lt g hg).1; omega))
          have HZV : Hid (v3.heap.size + 10 ≤ V.heap.size ∧ V.heap.size < V2.heap.size) := hid ⟨HSZ.out, HF2.out.1⟩
          clear hn2 hn3 HN HX HOW
          obtain ⟨V3, hV3⟩ : ∃ U, V2.alloc (.cells #[.bool false, .bool false, .bool false, .bool false, .bool false] 151) = U := ⟨_, rfl⟩
          have hb3 : Below V2.heap.size V2 V3 := by rw [← hV3]; exact (Below.refl _ _).alloc (Nat.le_refl _) _
          have HT3 : Hid (BoxIs V2.heap.size (B5 (rightsTo f p.reps 0)) V3) := hid (by rw [← hV3]; exact BoxIs.start V2 #[.bool false, .bool false, .bool false, .bool false, .bool false] 151)
          have HOWL : Hid (∀ g, (.slice q6 K.length d6 : Value).ownBlock = some g → g < V2.heap.size) := hid (fun g hg => (HOW2.out.lt g hg).2)
          have HN3 := hid (HN2.out.trans (near_below hb3)); have HX3 := hid (HX2.out.below hb3); have HOW3 := hid (HOW2.out.below hb3); have HF3 := hid (HF2.out.below hb3); have HQ3 : Hid (Near (fun i => i = wo.heap.size ∨ v3.heap.size + 10 ≤ i) V2 V3) := hid (near_below hb3)
          clear hb3 HN2 HX2 HOW2 HF2
          have e3 := ((HBW.out _ HN3.out).2.1).cell 3 (v := .slice rp k rc) rfl
          gi_wp2
          clear e3 hV3
          gi_loopw [39] (fun i wr => ∃ j : Nat, j ≤ k ∧ i = .int .i64 j ∧ BoxIs V2.heap.size (B5 (rightsTo f p.reps j)) wr ∧ Near (fun i => i = V2.heap.size) V3 wr) (fun i _ => k - (intOf i).toNat)
          case atStart => exact ⟨0, by omega, rfl, HT3.out, Near.refl _ _⟩
          case round =>
            obtain ⟨j, hj, rfl, ht, hnz⟩ := hrel
            have HT := hid ht; have HNZ := hid hnz
            have HNA := hid (HN3.out.trans (hnz.mono (fun i _ hi => by right; right; have := HZV.out; omega)))
            have HFZ := hid (HF3.out.far hnz (by have := HZV.out; omega))
            clear ht hnz
            by_cases hlt : j < k
            · obtain ⟨y, hy, b6, o6, rfl, hb6, d0, d1, d2⟩ := (HP.out.r.below (HBW.out _ HNA.out).1).rep hlt
              have HYO := hid (HOK.out.rep y (List.mem_of_getElem? hy))
              have hy5 : 0 ≤ y.tr ∧ y.tr < 5 := by have := HYO.out.1; have := HOK.out.m5; omega
              have HTS := hid (rightsTo_succ (f := f) hy)
              have hj5 : j < 5 := by omega
              have hji : (j : Int) < 5 := by omega
              obtain ⟨V7, hV7⟩ : ∃ U, wr.alloc (.cells #[.int .i64 y.tr, .int .i64 y.paid.lo, .int .i64 y.paid.hi] 89) = U := ⟨_, rfl⟩
              have hb7 : Below wr.heap.size wr V7 := by rw [← hV7]; exact (Below.refl _ _).alloc (Nat.le_refl _) _
              have HB7 : Hid (BoxIs wr.heap.size #[.int .i64 y.tr, .int .i64 y.paid.lo, .int .i64 y.paid.hi] V7) := hid (by rw [← hV7]; exact BoxIs.start _ _ _)
              have HF7 := hid (HFZ.out.below hb7); have HT7 := hid (HT.out.below hb7); have HN7 := hid (HNZ.out.trans (near_below hb7))
              clear hb7 hb6 hy HFZ HT
              have y0 := (HB7.out.2 0 (.int .i64 y.tr) rfl).1; have y1 := (HB7.out.2 1 (.int .i64 y.paid.lo) rfl).1; have y2 := (HB7.out.2 2 (.int .i64 y.paid.hi) rfl).1
              have x0 := (HF7.out.2 0 (.int .i64 (f 0)) rfl).1; have x1 := (HF7.out.2 1 (.int .i64 (f 1)) rfl).1; have x2 := (HF7.out.2 2 (.int .i64 (f 2)) rfl).1; have x3 := (HF7.out.2 3 (.int .i64 (f 3)) rfl).1; have x4 := (HF7.out.2 4 (.int .i64 (f 4)) rfl).1; have x5 := (HF7.out.2 5 (.int .i64 kp) rfl).1
              gi_wp2
              refine ⟨trivial, ?_⟩
              gi_at_call 94
              refine (CallsIn.inRound _ (callsIn_wide.2 (right_any f kp y V7 hy5.1 hy5.2))).mono ?_
              rintro e V8 ⟨rfl, hb8⟩
              have HT8 := hid (HT7.out.below hb8); have HN8 := hid (HN7.out.trans (near_below hb8))
              clear hb8 y0 y1 y2 x0 x1 x2 x3 x4 x5 hV7 d0 d1 d2
              have c1 := (HT8.out.2 j _ (B5_get hj5)).1; have f1 := (HT8.out.2 j _ (B5_get hj5)).2
              gi_wp2
              go_roundw
              case rel => exact ⟨j + 1, by omega, by go_num, by rw [← HTS.out, ← B5_set hj5]; exact HT8.out.put (j := j) _, HN8.out.setCell (p := ⟨V2.heap.size, j, none⟩) (fun _ => rfl) _⟩
              case measure => simp [intOf]; omega
            · have hjk : j = k := by omega
              gi_wp2
              have HXX0 : Hid (rightsOf p (f, kp) = rightsTo f p.reps j) := hid (by rw [rightsOf, ← HRN.out, hjk])
              obtain ⟨xx, hxx⟩ : ∃ z, rightsTo f p.reps j = z := ⟨_, rfl⟩
              rw [hxx] at HXX0 HT
              clear hxx hjk
              have HX9 := hid (HX3.out.far HNZ.out (by have := HZV.out; have := HZW.out; have := HZU.out; have := HBM.out; omega))
              have HOW9 := hid (HOW3.out.block fun g hg => HNZ.out.block g (HOW3.out.lt g hg).2 (by have := HOWL.out g hg; omega))
              have HQ9 := hid (HQ3.out.trans (HNZ.out.mono (fun i _ hi => by right; have := HZV.out; omega)))
              obtain ⟨U9, hU9⟩ : ∃ U, wr.drew = U := ⟨_, rfl⟩
              have hb9 : Below wr.heap.size wr U9 := by rw [← hU9]; exact (Below.refl _ _).drew
              have HXu := hid (HX9.out.below hb9); have HOWu := hid (HOW9.out.below hb9); have HQu := hid (HQ9.out.trans (near_below hb9)); have HTu := hid (HT.out.below hb9); have HNu := hid (HNA.out.trans (near_below hb9)); have HZu : Hid (v3.heap.size + 10 ≤ U9.heap.size) := hid (by have h1 := HTu.out.1; have h2 := HZV.out; omega)
              clear hb9 HX9 HOW9 HQ9 HT HNA HX3 HOW3 HQ3 HN3 HFZ HNZ HF3 HT3
              have hu0 := (HTu.out.2 0 (.bool (xx 0)) rfl).1; have hu1 := (HTu.out.2 1 (.bool (xx 1)) rfl).1; have hu2 := (HTu.out.2 2 (.bool (xx 2)) rfl).1; have hu3 := (HTu.out.2 3 (.bool (xx 3)) rfl).1; have hu4 := (HTu.out.2 4 (.bool (xx 4)) rfl).1
              have HU := hid (And.intro hu0 (And.intro hu1 (And.intro hu2 (And.intro hu3 hu4))))
              have HXC : Hid (U9.cell? ⟨wo.heap.size, 0, none⟩ = some (.slice q6 K.length d6)) := hid (HXu.out.2 0 _ rfl).1
              clear hu0 hu1 hu2 hu3 hu4
              by_cases hk0 : K.length = 0
              · have hKn : K = [] := List.length_eq_zero_iff.1 hk0
                have HPK : Hid (pushK K xx = K ++ [xx]) := hid (by rw [hKn]; rfl)
                have HLEN0 : Hid (((K.length : Int) == 0) = true) := hid (by rw [hk0]; rfl)
                clear hk0 hKn
                refine wpIn_region_held_round (S := fun V => V = U9) (by kernel_rfl) (by kernel_rfl) (fun ⟨_, _, h⟩ => h) hU9 (fun hS => ?_)
                rw [hS]
                simp only [List.size_toArray, List.length_cons, List.length_nil, Nat.reduceAdd, Array.replicate_succ, Array.replicate_zero, List.push_toArray, List.nil_append, List.cons_append]
                have hS2 : U9 = U9 := rfl
                refine tkH (i := 0) (v := ?_) (fun V hV => ?_) ?_
                rotate_left
                · obtain rfl := hV; have q0 := HXC.out; go_simp
                  try with_reducible rfl
                try simp only [Act.put, List.getElem_toArray, List.getElem_cons_zero, List.setIfInBounds_toArray, List.set_cons_zero, List.set_cons_succ]
                refine tkH (i := 1) (v := ?_) (fun V hV => ?_) ?_
                rotate_left
                · obtain rfl := hV; go_simp
                  try with_reducible rfl
                try simp only [Act.put, List.getElem_toArray, List.getElem_cons_zero, List.getElem_cons_succ, List.setIfInBounds_toArray, List.set_cons_zero, List.set_cons_succ]
                refine tkH (i := 2) (v := ?_) (fun V hV => ?_) ?_
                rotate_left
                · obtain rfl := hV; have q0 := HLEN0.out; go_simp
                  try with_reducible rfl
                try simp only [Act.put, List.getElem_toArray, List.getElem_cons_zero, List.getElem_cons_succ, List.setIfInBounds_toArray, List.set_cons_zero, List.set_cons_succ]
                refine tkH (i := 3) (v := ?_) (fun V hV => ?_) ?_
                rotate_left
                · obtain rfl := hV; go_simp
                  try with_reducible rfl
                try simp only [Act.put, List.getElem_toArray, List.getElem_cons_zero, List.getElem_cons_succ, List.setIfInBounds_toArray, List.set_cons_zero, List.set_cons_succ]
                refine tkU (i := 4) ?_
                try simp only [Act.put, List.getElem_toArray, List.getElem_cons_zero, List.getElem_cons_succ, List.setIfInBounds_toArray, List.set_cons_zero, List.set_cons_succ]
                refine tkU (i := 5) ?_
                try simp only [Act.put, List.getElem_toArray, List.getElem_cons_zero, List.getElem_cons_succ, List.setIfInBounds_toArray, List.set_cons_zero, List.set_cons_succ]
                refine tkU (i := 6) ?_
                try simp only [Act.put, List.getElem_toArray, List.getElem_cons_zero, List.getElem_cons_succ, List.setIfInBounds_toArray, List.set_cons_zero, List.set_cons_succ]
                refine tkU (i := 7) ?_
                try simp only [Act.put, List.getElem_toArray, List.getElem_cons_zero, List.getElem_cons_succ, List.setIfInBounds_toArray, List.set_cons_zero, List.set_cons_succ]
                refine tkU (i := 8) ?_
                try simp only [Act.put, List.getElem_toArray, List.getElem_cons_zero, List.getElem_cons_succ, List.setIfInBounds_toArray, List.set_cons_zero, List.set_cons_succ]
                refine tkU (i := 9) ?_
                try simp only [Act.put, List.getElem_toArray, List.getElem_cons_zero, List.getElem_cons_succ, List.setIfInBounds_toArray, List.set_cons_zero, List.set_cons_succ]
                refine tkU (i := 10) ?_
                try simp only [Act.put, List.getElem_toArray, List.getElem_cons_zero, List.getElem_cons_succ, List.setIfInBounds_toArray, List.set_cons_zero, List.set_cons_succ]
                refine tkU (i := 11) ?_
                try simp only [Act.put, List.getElem_toArray, List.getElem_cons_zero, List.getElem_cons_succ, List.setIfInBounds_toArray, List.set_cons_zero, List.set_cons_succ]
                refine tkH (i := 12) (v := ?_) (fun V hV => ?_) ?_
                rotate_left
                · obtain rfl := hV; go_simp
                  try with_reducible rfl
                try simp only [Act.put, List.getElem_toArray, List.getElem_cons_zero, List.getElem_cons_succ, List.setIfInBounds_toArray, List.set_cons_zero, List.set_cons_succ]
                refine wpAnyH_done (by kernel_rfl) ?_ _
                have ho := HOWu.out.below ((Below.refl U9.heap.size U9).alloc (Nat.le_refl _) (.cells #[.bool (xx 0), .bool (xx 1), .bool (xx 2), .bool (xx 3), .bool (xx 4)] 151))
                have hfl : K.length ≤ 1000000 := by have := HKL.out; have := HPL.out; omega
                have hzu := HZu.out
                have x0 := HXC.out
                have ⟨q0, q1, q2, q3, q4⟩ := HU.out
                gi_wp2_with (gi_at_builtin; refine appendIn_rows cellsX_len (by decide) cellsX_one 147 151 _ 5 (by decide) Try.info151 rfl Try.und147 (by rfl) _ _ (by rfl) (v3.heap.size + 10) _ _ _ 1 1 [xx] ho (by rfl) (by rfl) (x_lit xx 151) hfl (by omega) (by simp; omega) ?_; intro v' w' h1 h2 h3; obtain ⟨p', c', e', _⟩ := OwnRows.slice cellsX_len h1; subst e'; have hbx := (HXu.out.below ((Below.refl U9.heap.size U9).alloc (Nat.le_refl _) (.cells #[.bool (xx 0), .bool (xx 1), .bool (xx 2), .bool (xx 3), .bool (xx 4)] 151))).keep h2 (by have := HZW.out; have := HZU.out; have := HBM.out; omega); have s0 := (hbx.2 0 _ rfl).1; have s1 := (hbx.2 0 _ rfl).2)
                have e9 : (K ++ [xx]).length = K.length + 1 := by simp
                rw [e9] at h1
                have hnb := (((Near.refl (fun i => i = wo.heap.size ∨ v3.heap.size + 10 ≤ i) U9).alloc (.cells #[.bool (xx 0), .bool (xx 1), .bool (xx 2), .bool (xx 3), .bool (xx 4)] 151)).trans (Near.of_below h2 (fun i _ hi => .inr hi))).setCell (p := ⟨wo.heap.size, 0, none⟩) (fun _ => .inl rfl) (.slice p' (K.length + 1) c')
                exact ⟨HQu.out.trans hnb, HNu.out.trans (hnb.mono (fun i _ hi => by omega)), _, hbx.put (j := 0) _, by rw [HKS.out, HXX0.out, HPK.out]; exact h1.block fun g hg => Below.heap_setCell _ _ _ _ (by have := (h1.lt g hg).1; have := HZW.out; have := HZU.out; have := HBM.out; show g ≠ wo.heap.size; omega)⟩
              · have HLEN0 : Hid (((K.length : Int) == 0) = false) := hid (by simpa using fun h => hk0 (by rw [h]; rfl))
                obtain ⟨yl, hyl⟩ : ∃ y, K[K.length - 1]? = some y := getS (by omega)
                have hla : K.getLast? = some yl := by rw [List.getLast?_eq_getElem?]; exact hyl
                have HLEN1 : Hid (IntKind.i64.wrap ((K.length : Int) - 1) = ((K.length - 1 : Nat) : Int)) := hid (by rw [IntWalk.i64_in _ (by have := HKL.out; have := HPL.out; omega)]; omega)
                obtain ⟨b9, o9, hq9, hlt9, z0, z1, z2, z3, z4⟩ : ∃ b off, q6 = some ⟨b, off, none⟩ ∧ b < U9.heap.size ∧ U9.cell? ⟨b, off + (K.length - 1) * 5, none⟩ = some (.bool (yl 0)) ∧ U9.cell? ⟨b, off + (K.length - 1) * 5 + 1, none⟩ = some (.bool (yl 1)) ∧ U9.cell? ⟨b, off + (K.length - 1) * 5 + 2, none⟩ = some (.bool (yl 2)) ∧ U9.cell? ⟨b, off + (K.length - 1) * 5 + 3, none⟩ = some (.bool (yl 3)) ∧ U9.cell? ⟨b, off + (K.length - 1) * 5 + 4, none⟩ = some (.bool (yl 4)) := by
                  obtain ⟨p9, c9, e9, hr9⟩ := OwnRows.slice cellsX_len HOWu.out
                  cases e9
                  obtain ⟨y9, hy9, r9⟩ := hr9.x5 (show K.length - 1 < K.length by omega)
                  rw [hyl] at hy9; cases hy9
                  exact r9
                subst hq9
                have HLAST := hid (And.intro z0 (And.intro z1 (And.intro z2 (And.intro z3 z4))))
                have hix1 : ((K.length - 1 : Nat) : Int) < (K.length : Int) := by omega
                clear z0 z1 z2 z3 z4 hyl hlt9
                have HIX := hid hix1
                clear hix1
                cases heq : eqX yl xx
                · have HPK : Hid (pushK K xx = K ++ [xx]) := hid (by unfold pushK; rw [hla]; simp [heq])
                  have HEQX : Hid (((yl 0 == xx 0) && ((yl 1 == xx 1) && ((yl 2 == xx 2) && ((yl 3 == xx 3) && (yl 4 == xx 4))))) = false) := hid heq
                  clear heq hla hk0
                  refine wpIn_region_held_round (S := fun V => V = U9) (by kernel_rfl) (by kernel_rfl) (fun ⟨_, _, h⟩ => h) hU9 (fun hS => ?_)
                  rw [hS]
                  simp only [List.size_toArray, List.length_cons, List.length_nil, Nat.reduceAdd, Array.replicate_succ, Array.replicate_zero, List.push_toArray, List.nil_append, List.cons_append]
                  have hS2 : U9 = U9 := rfl
                  refine tkH (i := 0) (v := ?_) (fun V hV => ?_) ?_
                  rotate_left
                  · obtain rfl := hV; have q0 := HXC.out; go_simp
                    try with_reducible rfl
                  try simp only [Act.put, List.getElem_toArray, List.getElem_cons_zero, List.setIfInBounds_toArray, List.set_cons_zero, List.set_cons_succ]
                  refine tkH (i := 1) (v := ?_) (fun V hV => ?_) ?_
                  rotate_left
                  · obtain rfl := hV; go_simp
                    try with_reducible rfl
                  try simp only [Act.put, List.getElem_toArray, List.getElem_cons_zero, List.getElem_cons_succ, List.setIfInBounds_toArray, List.set_cons_zero, List.set_cons_succ]
                  refine tkH (i := 2) (v := ?_) (fun V hV => ?_) ?_
                  rotate_left
                  · obtain rfl := hV; have q0 := HLEN0.out; go_simp
                    try with_reducible rfl
                  try simp only [Act.put, List.getElem_toArray, List.getElem_cons_zero, List.getElem_cons_succ, List.setIfInBounds_toArray, List.set_cons_zero, List.set_cons_succ]
                  refine tkH (i := 3) (v := ?_) (fun V hV => ?_) ?_
                  rotate_left
                  · obtain rfl := hV; go_simp
                    try with_reducible rfl
                  try simp only [Act.put, List.getElem_toArray, List.getElem_cons_zero, List.getElem_cons_succ, List.setIfInBounds_toArray, List.set_cons_zero, List.set_cons_succ]
                  refine tkH (i := 4) (v := ?_) (fun V hV => ?_) ?_
                  rotate_left
                  · obtain rfl := hV; have q0 := HXC.out; go_simp
                    try with_reducible rfl
                  try simp only [Act.put, List.getElem_toArray, List.getElem_cons_zero, List.getElem_cons_succ, List.setIfInBounds_toArray, List.set_cons_zero, List.set_cons_succ]
                  refine tkH (i := 5) (v := ?_) (fun V hV => ?_) ?_
                  rotate_left
                  · obtain rfl := hV; have q0 := HXC.out; go_simp
                    try with_reducible rfl
                  try simp only [Act.put, List.getElem_toArray, List.getElem_cons_zero, List.getElem_cons_succ, List.setIfInBounds_toArray, List.set_cons_zero, List.set_cons_succ]
                  refine tkH (i := 6) (v := ?_) (fun V hV => ?_) ?_
                  rotate_left
                  · obtain rfl := hV; go_simp
                    try with_reducible rfl
                  try simp only [Act.put, List.getElem_toArray, List.getElem_cons_zero, List.getElem_cons_succ, List.setIfInBounds_toArray, List.set_cons_zero, List.set_cons_succ]
                  refine tkH (i := 7) (v := ?_) (fun V hV => ?_) ?_
                  rotate_left
                  · obtain rfl := hV; have q0 := HLEN1.out; go_simp
                    try with_reducible rfl
                  try simp only [Act.put, List.getElem_toArray, List.getElem_cons_zero, List.getElem_cons_succ, List.setIfInBounds_toArray, List.set_cons_zero, List.set_cons_succ]
                  refine tkH (i := 8) (v := ?_) (fun V hV => ?_) ?_
                  rotate_left
                  · obtain rfl := hV; have q0 := HIX.out; go_simp
                    try with_reducible rfl
                  try simp only [Act.put, List.getElem_toArray, List.getElem_cons_zero, List.getElem_cons_succ, List.setIfInBounds_toArray, List.set_cons_zero, List.set_cons_succ]
                  refine tkH (i := 9) (v := ?_) (fun V hV => ?_) ?_
                  rotate_left
                  · obtain rfl := hV; have ⟨q0, q1, q2, q3, q4⟩ := HLAST.out; go_simp
                    try with_reducible rfl
                  try simp only [Act.put, List.getElem_toArray, List.getElem_cons_zero, List.getElem_cons_succ, List.setIfInBounds_toArray, List.set_cons_zero, List.set_cons_succ]
                  refine tkH (i := 10) (v := ?_) (fun V hV => ?_) ?_
                  rotate_left
                  · obtain rfl := hV; have ⟨q0, q1, q2, q3, q4⟩ := HU.out; go_simp
                    try with_reducible rfl
                  try simp only [Act.put, List.getElem_toArray, List.getElem_cons_zero, List.getElem_cons_succ, List.setIfInBounds_toArray, List.set_cons_zero, List.set_cons_succ]
                  refine tkH (i := 11) (v := ?_) (fun V hV => ?_) ?_
                  rotate_left
                  · obtain rfl := hV; have q1 := eq151 (yl 0) (yl 1) (yl 2) (yl 3) (yl 4) (xx 0) (xx 1) (xx 2) (xx 3) (xx 4) V; rw [HEQX.out] at q1; go_simp
                    try with_reducible rfl
                  try simp only [Act.put, List.getElem_toArray, List.getElem_cons_zero, List.getElem_cons_succ, List.setIfInBounds_toArray, List.set_cons_zero, List.set_cons_succ]
                  refine tkH (i := 12) (v := ?_) (fun V hV => ?_) ?_
                  rotate_left
                  · obtain rfl := hV; go_simp
                    try with_reducible rfl
                  try simp only [Act.put, List.getElem_toArray, List.getElem_cons_zero, List.getElem_cons_succ, List.setIfInBounds_toArray, List.set_cons_zero, List.set_cons_succ]
                  refine wpAnyH_done (by kernel_rfl) ?_ _
                  have ho := HOWu.out.below ((Below.refl U9.heap.size U9).alloc (Nat.le_refl _) (.cells #[.bool (xx 0), .bool (xx 1), .bool (xx 2), .bool (xx 3), .bool (xx 4)] 151))
                  have hfl : K.length ≤ 1000000 := by have := HKL.out; have := HPL.out; omega
                  have hzu := HZu.out
                  have x0 := HXC.out
                  have ⟨q0, q1, q2, q3, q4⟩ := HU.out
                  gi_wp2_with (gi_at_builtin; refine appendIn_rows cellsX_len (by decide) cellsX_one 147 151 _ 5 (by decide) Try.info151 rfl Try.und147 (by rfl) _ _ (by rfl) (v3.heap.size + 10) _ _ _ 1 1 [xx] ho (by rfl) (by rfl) (x_lit xx 151) hfl (by omega) (by simp; omega) ?_; intro v' w' h1 h2 h3; obtain ⟨p', c', e', _⟩ := OwnRows.slice cellsX_len h1; subst e'; have hbx := (HXu.out.below ((Below.refl U9.heap.size U9).alloc (Nat.le_refl _) (.cells #[.bool (xx 0), .bool (xx 1), .bool (xx 2), .bool (xx 3), .bool (xx 4)] 151))).keep h2 (by have := HZW.out; have := HZU.out; have := HBM.out; omega); have s0 := (hbx.2 0 _ rfl).1; have s1 := (hbx.2 0 _ rfl).2)
                  have e9 : (K ++ [xx]).length = K.length + 1 := by simp
                  rw [e9] at h1
                  have hnb := (((Near.refl (fun i => i = wo.heap.size ∨ v3.heap.size + 10 ≤ i) U9).alloc (.cells #[.bool (xx 0), .bool (xx 1), .bool (xx 2), .bool (xx 3), .bool (xx 4)] 151)).trans (Near.of_below h2 (fun i _ hi => .inr hi))).setCell (p := ⟨wo.heap.size, 0, none⟩) (fun _ => .inl rfl) (.slice p' (K.length + 1) c')
                  exact ⟨HQu.out.trans hnb, HNu.out.trans (hnb.mono (fun i _ hi => by omega)), _, hbx.put (j := 0) _, by rw [HKS.out, HXX0.out, HPK.out]; exact h1.block fun g hg => Below.heap_setCell _ _ _ _ (by have := (h1.lt g hg).1; have := HZW.out; have := HZU.out; have := HBM.out; show g ≠ wo.heap.size; omega)⟩
                · have HPK : Hid (pushK K xx = K) := hid (by unfold pushK; rw [hla]; simp [heq])
                  have HEQX : Hid (((yl 0 == xx 0) && ((yl 1 == xx 1) && ((yl 2 == xx 2) && ((yl 3 == xx 3) && (yl 4 == xx 4))))) = true) := hid heq
                  clear heq hla hk0
                  refine wpIn_region_held_round (S := fun V => V = U9) (by kernel_rfl) (by kernel_rfl) (fun ⟨_, _, h⟩ => h) hU9 (fun hS => ?_)
                  rw [hS]
                  simp only [List.size_toArray, List.length_cons, List.length_nil, Nat.reduceAdd, Array.replicate_succ, Array.replicate_zero, List.push_toArray, List.nil_append, List.cons_append]
                  have hS2 : U9 = U9 := rfl
                  refine tkH (i := 0) (v := ?_) (fun V hV => ?_) ?_
                  rotate_left
                  · obtain rfl := hV; have q0 := HXC.out; go_simp
                    try with_reducible rfl
                  try simp only [Act.put, List.getElem_toArray, List.getElem_cons_zero, List.setIfInBounds_toArray, List.set_cons_zero, List.set_cons_succ]
                  refine tkH (i := 1) (v := ?_) (fun V hV => ?_) ?_
                  rotate_left
                  · obtain rfl := hV; go_simp
                    try with_reducible rfl
                  try simp only [Act.put, List.getElem_toArray, List.getElem_cons_zero, List.getElem_cons_succ, List.setIfInBounds_toArray, List.set_cons_zero, List.set_cons_succ]
                  refine tkH (i := 2) (v := ?_) (fun V hV => ?_) ?_
                  rotate_left
                  · obtain rfl := hV; have q0 := HLEN0.out; go_simp
                    try with_reducible rfl
                  try simp only [Act.put, List.getElem_toArray, List.getElem_cons_zero, List.getElem_cons_succ, List.setIfInBounds_toArray, List.set_cons_zero, List.set_cons_succ]
                  refine tkH (i := 3) (v := ?_) (fun V hV => ?_) ?_
                  rotate_left
                  · obtain rfl := hV; go_simp
                    try with_reducible rfl
                  try simp only [Act.put, List.getElem_toArray, List.getElem_cons_zero, List.getElem_cons_succ, List.setIfInBounds_toArray, List.set_cons_zero, List.set_cons_succ]
                  refine tkH (i := 4) (v := ?_) (fun V hV => ?_) ?_
                  rotate_left
                  · obtain rfl := hV; have q0 := HXC.out; go_simp
                    try with_reducible rfl
                  try simp only [Act.put, List.getElem_toArray, List.getElem_cons_zero, List.getElem_cons_succ, List.setIfInBounds_toArray, List.set_cons_zero, List.set_cons_succ]
                  refine tkH (i := 5) (v := ?_) (fun V hV => ?_) ?_
                  rotate_left
                  · obtain rfl := hV; have q0 := HXC.out; go_simp
                    try with_reducible rfl
                  try simp only [Act.put, List.getElem_toArray, List.getElem_cons_zero, List.getElem_cons_succ, List.setIfInBounds_toArray, List.set_cons_zero, List.set_cons_succ]
                  refine tkH (i := 6) (v := ?_) (fun V hV => ?_) ?_
                  rotate_left
                  · obtain rfl := hV; go_simp
                    try with_reducible rfl
                  try simp only [Act.put, List.getElem_toArray, List.getElem_cons_zero, List.getElem_cons_succ, List.setIfInBounds_toArray, List.set_cons_zero, List.set_cons_succ]
                  refine tkH (i := 7) (v := ?_) (fun V hV => ?_) ?_
                  rotate_left
                  · obtain rfl := hV; have q0 := HLEN1.out; go_simp
                    try with_reducible rfl
                  try simp only [Act.put, List.getElem_toArray, List.getElem_cons_zero, List.getElem_cons_succ, List.setIfInBounds_toArray, List.set_cons_zero, List.set_cons_succ]
                  refine tkH (i := 8) (v := ?_) (fun V hV => ?_) ?_
                  rotate_left
                  · obtain rfl := hV; have q0 := HIX.out; go_simp
                    try with_reducible rfl
                  try simp only [Act.put, List.getElem_toArray, List.getElem_cons_zero, List.getElem_cons_succ, List.setIfInBounds_toArray, List.set_cons_zero, List.set_cons_succ]
                  refine tkH (i := 9) (v := ?_) (fun V hV => ?_) ?_
                  rotate_left
                  · obtain rfl := hV; have ⟨q0, q1, q2, q3, q4⟩ := HLAST.out; go_simp
                    try with_reducible rfl
                  try simp only [Act.put, List.getElem_toArray, List.getElem_cons_zero, List.getElem_cons_succ, List.setIfInBounds_toArray, List.set_cons_zero, List.set_cons_succ]
                  refine tkH (i := 10) (v := ?_) (fun V hV => ?_) ?_
                  rotate_left
                  · obtain rfl := hV; have ⟨q0, q1, q2, q3, q4⟩ := HU.out; go_simp
                    try with_reducible rfl
                  try simp only [Act.put, List.getElem_toArray, List.getElem_cons_zero, List.getElem_cons_succ, List.setIfInBounds_toArray, List.set_cons_zero, List.set_cons_succ]
                  refine tkH (i := 11) (v := ?_) (fun V hV => ?_) ?_
                  rotate_left
                  · obtain rfl := hV; have q1 := eq151 (yl 0) (yl 1) (yl 2) (yl 3) (yl 4) (xx 0) (xx 1) (xx 2) (xx 3) (xx 4) V; rw [HEQX.out] at q1; go_simp
                    try with_reducible rfl
                  try simp only [Act.put, List.getElem_toArray, List.getElem_cons_zero, List.getElem_cons_succ, List.setIfInBounds_toArray, List.set_cons_zero, List.set_cons_succ]
                  refine tkH (i := 12) (v := ?_) (fun V hV => ?_) ?_
                  rotate_left
                  · obtain rfl := hV; go_simp
                    try with_reducible rfl
                  try simp only [Act.put, List.getElem_toArray, List.getElem_cons_zero, List.getElem_cons_succ, List.setIfInBounds_toArray, List.set_cons_zero, List.set_cons_succ]
                  refine wpAnyH_done (by kernel_rfl) ?_ _
                  gi_wp2
                  exact ⟨HQu.out, HNu.out, _, HXu.out, by rw [HKS.out, HXX0.out, HPK.out]; exact HOWu.out⟩
        case done =>
          rintro V ⟨hn, v5, hx, ho⟩ hT hK hsz
          obtain ⟨q6, d6, rfl, hkr⟩ := OwnRows.slice cellsX_len ho
          obtain ⟨K, hKe⟩ : ∃ K, knownL p (truO p allT (everyL k)) = K := ⟨_, rfl⟩
          have HOKK : Hid (∀ X, okK K (everyL k) X = leaveF p X) := hid (fun X => by rw [← hKe]; exact okK_poss HOK.out HRN.out X)
          have HKLE : Hid (K.length ≤ 1500) := hid (by
            rw [← hKe]
            refine Nat.le_trans (known_len p _) ?_
            have h1 : (truO p allT (everyL k)).length ≤ (listsL p.losses).length := by unfold truO; exact Nat.le_trans (List.length_filter_le _ _) (by simp)
            exact Nat.le_trans h1 (lists_len HOK.out))
          rw [hKe] at hx hkr ho
          clear hKe
          obtain ⟨hb1, hb2, hb3, hb4⟩ := HBW.out V hn
          have hzv : wo.heap.size < V.heap.size := hx.1
          obtain ⟨W9, hW9⟩ : ∃ U, (V.alloc (.cells #[.slice none 0 0] 27)).alloc (.cells #[.func (.func 95) #[] #[.pointer (some ⟨V.heap.size, 0, none⟩), .pointer (some ⟨wo.heap.size, 0, none⟩), .pointer (some ⟨w1.heap.size, 0, none⟩), .pointer (some ⟨w.heap.size, 0, none⟩), .pointer (some ⟨(V.heap.size + 1), 0, none⟩)]] 152) = U := ⟨_, rfl⟩
          have hb9 : Below V.heap.size V W9 := by rw [← hW9]; exact ((Below.refl _ _).alloc (Nat.le_refl _) _).alloc (by simp) _
          have hz9 : W9.heap.size = V.heap.size + 2 := by rw [← hW9]; simp
          have hcf : BoxIs V.heap.size #[.slice none 0 0] W9 := by rw [← hW9]; exact (BoxIs.start V #[.slice none 0 0] 27).below ((Below.refl _ _).alloc (Nat.le_refl _) _)
          have hba : W9.cell? ⟨V.heap.size + 1, 0, none⟩ = some (.func (.func 95) #[] #[.pointer (some ⟨V.heap.size, 0, none⟩), .pointer (some ⟨wo.heap.size, 0, none⟩), .pointer (some ⟨w1.heap.size, 0, none⟩), .pointer (some ⟨w.heap.size, 0, none⟩), .pointer (some ⟨(V.heap.size + 1), 0, none⟩)]) := by have h := cell_box (V.alloc (.cells #[.slice none 0 0] 27)) #[.func (.func 95) #[] #[.pointer (some ⟨V.heap.size, 0, none⟩), .pointer (some ⟨wo.heap.size, 0, none⟩), .pointer (some ⟨w1.heap.size, 0, none⟩), .pointer (some ⟨w.heap.size, 0, none⟩), .pointer (some ⟨(V.heap.size + 1), 0, none⟩)]] 152 0 _ rfl; rw [hW9, World.size_alloc] at h; exact h
          have hkn : IntsAt W9 q5 (everyL k).length (everyL k) := hb4.below hb9
          have HLV9 : Hid (LvAt W9 V.heap.size wo.heap.size w1.heap.size w.heap.size (V.heap.size + 1) q6 K.length d6 K q5 (everyL k).length d5 (everyL k) rp k rc) := hid ⟨((hx.below hb9).2 0 _ rfl).1, hkr.below hb9, ((hb3.below hb9).2 0 _ rfl).1, hkn, (hb2.step hb9).cell 3 (v := .slice rp k rc) rfl, hba, by omega, by have := hb3.1; omega, by have := hb2.size; omega, by omega, fun h => by have := rows_lt hkr h; omega, fun h => by have := ints_lt hb4 h; omega⟩
          have HF9 : Hid (Free W9 V.heap.size) := hid ⟨_, _, _, (hcf.2 0 _ rfl).1, (hcf.2 0 _ rfl).2⟩
          have HK9 : Hid (W9.heap[v3.heap.size]? = some (.deferred (some []))) := hid ((hb9.block _ (by omega)).trans hK)
          have HB9 : Hid (Below w.heap.size w W9) := hid (hb1.trans (hb9.mono hb1.size))
          have HZ9 : Hid (v3.heap.size + 2 ≤ V.heap.size) := hid hsz
          have HWV : Hid (w.heap.size ≤ V.heap.size) := hid hb1.size
          have c3 := HLV9.out.r
          clear hn hx ho hT hK hsz hkr hb1 hb2 hb3 hb4 hzv hb9 hz9 hcf hkn
          go_wp2_with fail
          go_step3
          go_wp2_with fail
          clear c3 hba hW9
          go_loopw [72] (fun i wr => ∃ m : Nat, m ≤ k + 1 ∧ i = .int .i64 m ∧ (∀ j, j < m → (combos k j 0).find? (okK K (everyL k)) = none) ∧ Free wr V.heap.size ∧ Near (fun i => i = V.heap.size) W9 wr) (fun i _ => k + 1 - (intOf i).toNat)
          case atStart => exact ⟨0, by omega, rfl, (fun j hj => by omega), HF9.out, Near.refl _ _⟩
          case round =>
            clear HF9
            obtain ⟨m, hm, rfl, hno, hfr, hnr⟩ := hrel
            have HNO9 := hid hno; have HFR := hid hfr; have HNR := hid hnr; have HLR := hid (HLV9.out.near hnr)
            clear hno hfr hnr
            by_cases hlt : m < k + 1
            · have hmk : (m : Int) < (k : Int) + 1 := by omega
              have ca := HLR.out.a
              have HCALL := hid (leave95_any V.heap.size wo.heap.size w1.heap.size w.heap.size (V.heap.size + 1) q6 K.length d6 K q5 (everyL k).length d5 (everyL k) rp k rc (by omega) (by rw [everyL_len]; omega) (idL_every hr5) (by have := HKLE.out; omega) m 0 [] none 0 0 wr HFR.out HLR.out ⟨ints_nil _, fun a ha => by cases ha⟩ (Nat.zero_le _) (by simp) (by simp; omega))
              rw [map_nil_app, show ((0 : Nat) : Int) = 0 from rfl] at HCALL
              go_wp2_with fail
              (with_reducible refine HCALL.out.mono ?_)
              rintro e w5 ⟨rfl, hn5, hf5, hx5⟩
              have HN5 := hid (HNR.out.trans hn5); have HF5 := hid hf5; have HX5 := hid hx5
              clear hn5 hf5 hx5 ca
              cases hfd : (combos k m 0).find? (okK K (everyL k)) with
              | none =>
                have HNN : Hid (∀ j, j < m + 1 → (combos k j 0).find? (okK K (everyL k)) = none) := hid (fun j hj => by
                  by_cases ej : j = m
                  · subst ej; exact hfd
                  · exact HNO9.out j (by omega))
                clear hfd
                go_wp2_with fail
                go_roundw
                case rel => exact ⟨m + 1, by omega, by go_num, HNN.out, HF5.out, HN5.out⟩
                case measure => simp [intOf]; omega
              | some X =>
                have HXL : Hid (X = leaveP p) := hid (by
                  have h1 := short_at (f := okK K (everyL k)) (show m ≤ k by omega) hfd HNO9.out
                  have h2 := leave_law HOK.out
                  rw [← HRN.out, ← (funext HOKK.out : okK K (everyL k) = leaveF p), h1] at h2
                  exact Option.some.inj h2)
                obtain ⟨pf, kf, df, hcf, hqf⟩ := HX5.out X hfd
                have HQF := hid hqf.1
                clear hfd hqf
                go_wp2_with fail
                simp only [Exit.noGoto]
                have hkd : w5.heap[v3.heap.size]? = some (.deferred (some [])) := (HN5.out.block _ (Array.getElem?_eq_some_iff.1 HK9.out).1 (by have := HZ9.out; omega)).trans HK9.out
                refine ⟨by simp, .inl ⟨_, _, rfl, run_takeDeferred hkd, ?_⟩⟩
                have hb5 : Below w.heap.size w w5 := HB9.out.trans (HN5.out.below HB9.out.size (fun i h1 h2 => by have := HWV.out; omega))
                have hn9 := Near.putObj (w := w5) v3.heap.size (.deferred none)
                refine ⟨.tuple #[.slice pf kf df, .int .i64 0], by simp [results, Try.f44, go_sem], pf, kf, df, by rw [HF0.out], ?_, hb5.trans (hn9.below hb5.size (fun i h1 h2 => by have := HZW.out; have := HZU.out; have := HBM.out; have := HWS.out; omega))⟩
                rw [HLV.out, ← HXL.out]
                exact ints_put HQF.out hkd
            · exfalso
              have hmk : m = k + 1 := by omega
              have h1 := short_none (f := okK K (everyL k)) (n := k) (fun j hj => HNO9.out j (by omega))
              have h2 := leave_law HOK.out
              rw [← HRN.out, ← (funext HOKK.out : okK K (everyL k) = leaveF p), h1] at h2
              cases h2
        case stop =>
          rintro pre rest V hall hx hT hK hsz
          exact hx.elim
  · have hE : (faultP p != 0) = true := by simpa using h0
    have HLV : Hid (leaveV p = []) := hid (by rw [leaveV, if_neg h0])
    clear h0
    go_wp2_with fail
    simp only [Exit.noGoto]
    refine ⟨.tuple #[.slice none 0 0, .int .i64 (faultP p)], by simp [results, Try.f44, go_sem], none, 0, 0, rfl, by rw [HLV.out]; exact ints_nil _, H1.out.below⟩
end Go.Proofs.Ytaioobhblfnlaaa
