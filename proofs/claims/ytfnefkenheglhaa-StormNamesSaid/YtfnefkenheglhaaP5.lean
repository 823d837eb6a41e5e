/- Package storm: which cards are right in a truth, with what is known. No condition. -/
import Derived.Test.YtfnefkenheglhaaP4
namespace Go.Proofs.Ytfnefkenheglhaa
open Go.RowKit

/-- Whether the card with a number is right; of those that there are not it is always so. -/
def rightF (s : Sto) (t : Tru) (i : Nat) : Bool := match s.cards[i]? with
  | some c => fitsB s t c
  | none => true
/-- What is known is so. -/
def Knows (s : Sto) (M : Value → Option Value) : Prop := ∀ t v, M (truV t) = some v → v = .agg (B6 (rightF s t))
theorem Knows.upd {s : Sto} {M : Value → Option Value} (h : Knows s M) (t : Tru) : Knows s (updM M (truV t) (.agg (B6 (rightF s t)))) := by
  intro u v hv
  unfold updM at hv
  split at hv
  · rename_i e
    rw [truV_inj e]
    exact (Option.some.inj hv).symm
  · exact h u v hv
theorem Try.zero135 (w : World) : (zeroValue 135).run Try.prog w = .ok (.agg #[.bool false, .bool false, .bool false, .bool false, .bool false, .bool false]) w := by kernel_rfl
theorem SmallT.key {t : Tru} (h : SmallT t) : ∃ kl, keyOf Try.prog 94 (truV t) = some kl := by
  have := h.a0; have := h.a9; have := h.b0; have := h.b9; have := h.h0; have := h.h3; have := h.p0; have := h.p9
  exact key_tru t (by omega) (by omega) (by omega) (by omega)
theorem WorkAt.near {C : Nat → Prop} {W W' : World} {b : Nat} {s : Sto} {p : Option Addr} {n c bm : Nat} (h : WorkAt W b s p n c bm) (hn : Near C W W') (hC : ¬ C b) : WorkAt W' b s p n c bm := h.kept (hn.block _ h.lt hC)
theorem BoxIs.next6 {b : Nat} {f : Nat → Bool} {W : World} {k : Nat} (h : BoxIs b (B6 fun i => decide (i < k) && f i) W) (hk : k < 6) : BoxIs b (B6 fun i => decide (i < k + 1) && f i) (W.setCell ⟨b, k, none⟩ (.bool (f k))) := by
  have h2 := h.set6 hk (f k)
  rwa [B6_ext (g := fun i => decide (i < k + 1) && f i) (fun i _ => by
    unfold updB
    by_cases e : i = k
    · subst e; simp
    · have : decide (i < k + 1) = decide (i < k) := by rw [decide_eq_decide]; omega
      simp [e, this])] at h2
theorem near_put6 {S : Nat → Prop} {b : Nat} {a W : World} (h : Near S a W) (hb : b < a.heap.size → S b) (x0 x1 x2 x3 x4 x5 : Value) : Near S a ((((((W.setCell ⟨b, 0, none⟩ x0).setCell ⟨b, 1, none⟩ x1).setCell ⟨b, 2, none⟩ x2).setCell ⟨b, 3, none⟩ x3).setCell ⟨b, 4, none⟩ x4).setCell ⟨b, 5, none⟩ x5) :=
  (((((h.setCell (p := ⟨b, 0, none⟩) hb x0).setCell (p := ⟨b, 1, none⟩) hb x1).setCell (p := ⟨b, 2, none⟩) hb x2).setCell (p := ⟨b, 3, none⟩) hb x3).setCell (p := ⟨b, 4, none⟩) hb x4).setCell (p := ⟨b, 5, none⟩) hb x5
/-- What comes back: which cards are right; a map that knows it. -/
def RightPost (s : Sto) (t : Tru) (bm nn : Nat) (w : World) : Ending → World → Prop := fun e w' =>
  e = .returned (.agg (B6 (rightF s t))) ∧ ∃ M', MapV w' 94 bm (nn + 1) M' ∧ Knows s M' ∧ Near (fun k => k = bm) w w'

set_option maxRecDepth 40000 in
set_option maxHeartbeats 8000000 in
theorem right6_any (s : Sto) (p : Option Addr) (n c : Nat) (t : Tru) (b bm nn : Nat) (M : Value → Option Value) (w : World) (hw : WorkAt w b s p n c bm) (hcs : CrdsAt w p n s.cards) (hm : MapV w 94 bm nn M) (hk : Knows s M) (hnn : nn < maxLen) (ok : OkS s) (ht : truB s t = true) :
    Calls Try.prog 83 #[.pointer (some ⟨b, 0, none⟩), .agg #[.int .i64 t.a, .int .i64 t.b, .int .i64 t.half, .int .i64 t.peak]] w (RightPost s t bm nn w) := by
  have HW := hid hw
  have HCS := hid hcs
  have HM := hid hm
  have HKN := hid hk
  have hn6 : n ≤ 6 := by rw [hcs.1]; exact ok.n6
  have HT := hid (ok.smallT ht)
  have HSS := hid ok.small
  have HL := hid hcs.1
  have HSK := hid (fun (x : Crd) hx => ok.smallK (k := x) hx)
  obtain ⟨kl, hkey⟩ := (ok.smallT ht).key
  have HKEY := hid hkey
  have hbm : b ≠ bm := hm.ne hw.c12
  have hbl := hw.lt
  have hml := hm.lt
  clear hw hcs hm hk hkey ok ht
  obtain ⟨W0, hW0⟩ : ∃ W, (w.alloc (.cells #[.int .i64 t.a, .int .i64 t.b, .int .i64 t.half, .int .i64 t.peak] 94)).alloc (.cells #[.bool false, .bool false, .bool false, .bool false, .bool false, .bool false] 135) = W := ⟨_, rfl⟩
  have HB0 : Hid (Boxed1 w #[.int .i64 t.a, .int .i64 t.b, .int .i64 t.half, .int .i64 t.peak] 94 W0) := by show Boxed1 _ _ _ _; rw [← hW0]; exact (Boxed1.start _ _ _).alloc _
  have HR0 : Hid (BoxIs (w.heap.size + 1) (B6 fun _ => false) W0) := by
    show BoxIs _ _ _
    have h := BoxIs.start (w.alloc (.cells #[.int .i64 t.a, .int .i64 t.b, .int .i64 t.half, .int .i64 t.peak] 94)) #[.bool false, .bool false, .bool false, .bool false, .bool false, .bool false] 135
    rw [World.size_alloc, hW0] at h; exact h
  have HZ0 : Hid (W0.heap.size = w.heap.size + 2) := by show _ = _; rw [← hW0]; simp
  have HW0 := hid (HW.out.below HB0.out.below)
  have HM0 := hid (HM.out.below HB0.out.below)
  have hB5 : W0.heap.size = w.heap.size + 2 := HZ0.out
  obtain ⟨v, ok, hlv⟩ : ∃ (v : Nat → Bool) (ok : Bool), (∀ V, MapV V 94 bm nn M → (Instr.lookup 163 (.map (some bm)) (truV t) true).run Try.prog V = .ok (.tuple #[.agg (B6 v), .bool ok]) V) ∧ (ok = true → v = rightF s t) ∧ (ok = false → v = fun _ => false) := by
    cases hM : M (truV t) with
    | none => exact ⟨fun _ => false, false, fun V hV => by have h := hV.look Try.key94 Try.underlying163 (Try.zero135 V) HKEY.out; rw [hM] at h; exact h, (by intro h; cases h), fun _ => rfl⟩
    | some u => exact ⟨rightF s t, true, fun V hV => by have h := hV.look Try.key94 Try.underlying163 (Try.zero135 V) HKEY.out; rw [hM] at h; rw [h, HKN.out _ _ hM]; rfl, fun _ => rfl, (by intro h; cases h)⟩
  have HLV := hid hlv.1
  have HV1 := hid hlv.2.1
  have HV2 := hid hlv.2.2
  clear hlv
  unfold truV at HLV
  unfold B6 at HLV
  go_enter Try.func83, Try.ntmps83
  go_upto_region 1 with fail
  clear hW0
  refine wp_region_held_drew (S := fun V => Boxed1 w #[.int .i64 t.a, .int .i64 t.b, .int .i64 t.half, .int .i64 t.peak] 94 V ∧ WorkAt V b s p n c bm ∧ MapV V 94 bm nn M) (by kernel_rfl) (⟨HB0.out.drew, HW0.out.below (Below.refl _ _).drew, HM0.out.below (Below.refl _ _).drew⟩) (fun hS => ?_)
  simp only [List.size_toArray, List.length_cons, List.length_nil, Nat.reduceAdd, Array.replicate_succ, Array.replicate_zero, List.push_toArray, List.nil_append, List.cons_append]
  refine tkH (i := 0) (v := ?_) (fun V hV => ?_) ?_
  rotate_left
  · go_simp
    try with_reducible rfl
  try simp only [Act.put, List.getElem_toArray, List.getElem_cons_zero, List.setIfInBounds_toArray, List.set_cons_zero, List.set_cons_succ]
  refine tkH (i := 1) (v := ?_) (fun V hV => ?_) ?_
  rotate_left
  · go_simp
    try with_reducible rfl
  try simp only [Act.put, List.getElem_toArray, List.getElem_cons_zero, List.getElem_cons_succ, List.setIfInBounds_toArray, List.set_cons_zero, List.set_cons_succ]
  refine tkH (i := 2) (v := ?_) (fun V hV => ?_) ?_
  rotate_left
  · go_simp
    try with_reducible rfl
  try simp only [Act.put, List.getElem_toArray, List.getElem_cons_zero, List.getElem_cons_succ, List.setIfInBounds_toArray, List.set_cons_zero, List.set_cons_succ]
  refine tkH (i := 3) (v := ?_) (fun V hV => ?_) ?_
  rotate_left
  · have e0 := hV.2.1.c12; go_simp
    try with_reducible rfl
  try simp only [Act.put, List.getElem_toArray, List.getElem_cons_zero, List.getElem_cons_succ, List.setIfInBounds_toArray, List.set_cons_zero, List.set_cons_succ]
  refine tkH (i := 4) (v := ?_) (fun V hV => ?_) ?_
  rotate_left
  · have f0 := (TruAt.of hV.1.cell).c0; have f1 := (TruAt.of hV.1.cell).c1; have f2 := (TruAt.of hV.1.cell).c2; have f3 := (TruAt.of hV.1.cell).c3; go_simp
    try with_reducible rfl
  try simp only [Act.put, List.getElem_toArray, List.getElem_cons_zero, List.getElem_cons_succ, List.setIfInBounds_toArray, List.set_cons_zero, List.set_cons_succ]
  refine tkH (i := 5) (v := ?_) (fun V hV => ?_) ?_
  rotate_left
  · have e0 := HLV.out V hV.2.2; go_simp
    try with_reducible rfl
  try simp only [Act.put, List.getElem_toArray, List.getElem_cons_zero, List.getElem_cons_succ, List.setIfInBounds_toArray, List.set_cons_zero, List.set_cons_succ]
  refine tkH (i := 6) (v := ?_) (fun V hV => ?_) ?_
  rotate_left
  · go_simp
    try with_reducible rfl
  try simp only [Act.put, List.getElem_toArray, List.getElem_cons_zero, List.getElem_cons_succ, List.setIfInBounds_toArray, List.set_cons_zero, List.set_cons_succ]
  refine tkH (i := 7) (v := ?_) (fun V hV => ?_) ?_
  rotate_left
  · go_simp
    try with_reducible rfl
  try simp only [Act.put, List.getElem_toArray, List.getElem_cons_zero, List.getElem_cons_succ, List.setIfInBounds_toArray, List.set_cons_zero, List.set_cons_succ]
  refine tkH (i := 8) (v := ?_) (fun V hV => ?_) ?_
  rotate_left
  · go_simp
    try with_reducible rfl
  try simp only [Act.put, List.getElem_toArray, List.getElem_cons_zero, List.getElem_cons_succ, List.setIfInBounds_toArray, List.set_cons_zero, List.set_cons_succ]
  refine wpAnyH_ready (rs := [9]) (by kernel_rfl) (by simp) ?_
  refine AllReadyH.cons (o := _) rfl (fun K hK => ?_) AllReadyH.nil
  obtain ⟨V1, hV1⟩ : ∃ V, W0.drew.alloc (.cells #[.bool false, .bool false, .bool false, .bool false, .bool false, .bool false] 135) = V := ⟨_, rfl⟩
  have HX1 : Hid (BoxIs (w.heap.size + 2) (B6 fun _ => false) V1) := by
    show BoxIs _ _ _
    have h := BoxIs.start W0.drew #[.bool false, .bool false, .bool false, .bool false, .bool false, .bool false] 135
    rw [hV1] at h; rw [← hB5]; exact h
  have HB1 : Hid (Below W0.heap.size W0 V1) := by show Below _ _ _; rw [← hV1]; exact (Below.refl _ _).drew.alloc (Nat.le_refl _) _
  go_simp
  refine hK.out _ _ (⟨HB0.out.step HB1.out, HW0.out.below HB1.out, HM0.out.below HB1.out⟩) (fun hS => ?_)
  clear hK K
  try simp only [List.setIfInBounds_toArray, List.set_cons_zero, List.set_cons_succ]
  refine wpAnyH_ready (rs := [10]) (by kernel_rfl) (by simp) ?_
  refine AllReadyH.cons (o := _) rfl (fun K hK => ?_) AllReadyH.nil
  have g0 := (HX1.out.get6 (k := 0) (by decide)).1; have f0 := (HX1.out.get6 (k := 0) (by decide)).2
  have g1 := (HX1.out.get6 (k := 1) (by decide)).1; have f1 := (HX1.out.get6 (k := 1) (by decide)).2
  have g2 := (HX1.out.get6 (k := 2) (by decide)).1; have f2 := (HX1.out.get6 (k := 2) (by decide)).2
  have g3 := (HX1.out.get6 (k := 3) (by decide)).1; have f3 := (HX1.out.get6 (k := 3) (by decide)).2
  have g4 := (HX1.out.get6 (k := 4) (by decide)).1; have f4 := (HX1.out.get6 (k := 4) (by decide)).2
  have g5 := (HX1.out.get6 (k := 5) (by decide)).1; have f5 := (HX1.out.get6 (k := 5) (by decide)).2
  obtain ⟨V2, hV2⟩ : ∃ V, ((((((V1).setCell ⟨w.heap.size + 2, 0, none⟩ (.bool (v 0))).setCell ⟨w.heap.size + 2, 1, none⟩ (.bool (v 1))).setCell ⟨w.heap.size + 2, 2, none⟩ (.bool (v 2))).setCell ⟨w.heap.size + 2, 3, none⟩ (.bool (v 3))).setCell ⟨w.heap.size + 2, 4, none⟩ (.bool (v 4))).setCell ⟨w.heap.size + 2, 5, none⟩ (.bool (v 5)) = V := ⟨_, rfl⟩
  have HX2 : Hid (BoxIs (w.heap.size + 2) (B6 v) V2) := by show BoxIs _ _ _; rw [← hV2]; exact HX1.out.put6
  have HB2 : Hid (Below W0.heap.size W0 V2) := by show Below _ _ _; rw [← hV2]; exact below_put6 HB1.out (Nat.le_of_eq hB5) _ _ _ _ _ _
  go_simp
  refine hK.out _ _ (⟨HB0.out.step HB2.out, HW0.out.below HB2.out, HM0.out.below HB2.out⟩) (fun hS => ?_)
  clear hK K
  try simp only [List.setIfInBounds_toArray, List.set_cons_zero, List.set_cons_succ]
  refine tkH (i := 11) (v := ?_) (fun V hV => ?_) ?_
  rotate_left
  · go_simp
    try with_reducible rfl
  try simp only [Act.put, List.getElem_toArray, List.getElem_cons_zero, List.getElem_cons_succ, List.setIfInBounds_toArray, List.set_cons_zero, List.set_cons_succ]
  refine wpAnyH_done (by kernel_rfl) ?_ _
  clear hS hV1 hV2
  have HR2 := hid (HR0.out.below HB2.out)
  have HW2 := hid (HW0.out.below HB2.out)
  have HM2 := hid (HM0.out.below HB2.out)
  have HB3 := hid (HB0.out.step HB2.out)
  clear HX1 HB1 HM0 HW0 HR0 HLV
  cases ok
  · have HVF : Hid (v = fun _ => false) := HV2.out rfl
    rw [HVF.out] at HX2
    go_wp2_with fail
    go_loopw [19] (fun i wr => ∃ k : Nat, k ≤ 6 ∧ i = .int .i64 k ∧ BoxIs (w.heap.size + 2) (B6 fun i => decide (i < k) && rightF s t i) wr ∧ Boxed1 w #[.int .i64 t.a, .int .i64 t.b, .int .i64 t.half, .int .i64 t.peak] 94 wr ∧ BoxIs (w.heap.size + 1) (B6 fun _ => false) wr ∧ WorkAt wr b s p n c bm ∧ MapV wr 94 bm nn M) (fun i _ => 6 - (intOf i).toNat)
    case atStart => exact ⟨0, by omega, rfl, by rw [B6_ext (g := fun _ => false) (fun i _ => by simp)]; exact HX2.out, HB3.out, HR2.out, HW2.out, HM2.out⟩
    case round =>
      clear HX2 HB3 HR2 HW2 HM2 HB2
      obtain ⟨k, hk, rfl, hx, hB, hR, hw, hm⟩ := hrel
      have HX := hid hx; have HB := hid hB; have HR := hid hR; have HWW := hid hw; have HMM := hid hm
      clear hx hB hR hw hm
      have hsz := HX.out.1
      by_cases hlt : k < 6
      · have g0 := (HX.out.get6 hlt).1; have f0 := (HX.out.get6 hlt).2
        have HSET : Hid (∀ (V : World) (y : Bool), BoxIs (w.heap.size + 2) (B6 fun i => decide (i < k) && rightF s t i) V → y = rightF s t k → BoxIs (w.heap.size + 2) (B6 fun i => decide (i < k + 1) && rightF s t i) (V.setCell ⟨w.heap.size + 2, k, none⟩ (.bool y))) := fun V y hV hy => by rw [hy]; exact hV.next6 hlt
        have hBW : Below (w.heap.size + 2) wr wr.drew := (Below.refl _ _).drew
        by_cases hkn : n ≤ k
        · have hkn2 := hkn
          have hy : true = rightF s t k := by
            rw [rightF, List.getElem?_eq_none (by have := HL.out; omega)]
          have HY7 := hid hy
          clear hy
          have k11 := HWW.out.sto.c11
          have HCE : Hid (∀ V, Below (w.heap.size + 2) wr V → V.cell? ⟨b, 11, none⟩ = some (.slice p n c)) := fun V hV => (hV.cell (p := ⟨b, 11, none⟩) (by show b < w.heap.size + 2; omega)).trans k11
          clear k11
          have hge : decide ((n : Int) ≤ k) = true := by simp; omega
          clear g0 f0
          go_wp2_with fail
          refine wp_region_held_drew (S := fun V => Below (w.heap.size + 2) wr V) (by kernel_rfl) (hBW) (fun hS => ?_)
          simp only [List.size_toArray, List.length_cons, List.length_nil, Nat.reduceAdd, Array.replicate_succ, Array.replicate_zero, List.push_toArray, List.nil_append, List.cons_append]
          refine tkH (i := 0) (v := ?_) (fun V hV => ?_) ?_
          rotate_left
          · go_simp
            try with_reducible rfl
          try simp only [Act.put, List.getElem_toArray, List.getElem_cons_zero, List.setIfInBounds_toArray, List.set_cons_zero, List.set_cons_succ]
          refine tkH (i := 1) (v := ?_) (fun V hV => ?_) ?_
          rotate_left
          · go_simp
            try with_reducible rfl
          try simp only [Act.put, List.getElem_toArray, List.getElem_cons_zero, List.getElem_cons_succ, List.setIfInBounds_toArray, List.set_cons_zero, List.set_cons_succ]
          refine tkH (i := 2) (v := ?_) (fun V hV => ?_) ?_
          rotate_left
          · go_simp
            try with_reducible rfl
          try simp only [Act.put, List.getElem_toArray, List.getElem_cons_zero, List.getElem_cons_succ, List.setIfInBounds_toArray, List.set_cons_zero, List.set_cons_succ]
          refine tkH (i := 3) (v := ?_) (fun V hV => ?_) ?_
          rotate_left
          · go_simp
            try with_reducible rfl
          try simp only [Act.put, List.getElem_toArray, List.getElem_cons_zero, List.getElem_cons_succ, List.setIfInBounds_toArray, List.set_cons_zero, List.set_cons_succ]
          refine tkH (i := 4) (v := ?_) (fun V hV => ?_) ?_
          rotate_left
          · go_simp
            try with_reducible rfl
          try simp only [Act.put, List.getElem_toArray, List.getElem_cons_zero, List.getElem_cons_succ, List.setIfInBounds_toArray, List.set_cons_zero, List.set_cons_succ]
          refine tkH (i := 5) (v := ?_) (fun V hV => ?_) ?_
          rotate_left
          · go_simp
            try with_reducible rfl
          try simp only [Act.put, List.getElem_toArray, List.getElem_cons_zero, List.getElem_cons_succ, List.setIfInBounds_toArray, List.set_cons_zero, List.set_cons_succ]
          refine tkH (i := 6) (v := ?_) (fun V hV => ?_) ?_
          rotate_left
          · have e0 := HCE.out V hV; go_simp
            try with_reducible rfl
          try simp only [Act.put, List.getElem_toArray, List.getElem_cons_zero, List.getElem_cons_succ, List.setIfInBounds_toArray, List.set_cons_zero, List.set_cons_succ]
          refine tkH (i := 7) (v := ?_) (fun V hV => ?_) ?_
          rotate_left
          · go_simp
            try with_reducible rfl
          try simp only [Act.put, List.getElem_toArray, List.getElem_cons_zero, List.getElem_cons_succ, List.setIfInBounds_toArray, List.set_cons_zero, List.set_cons_succ]
          refine tkH (i := 8) (v := ?_) (fun V hV => ?_) ?_
          rotate_left
          · go_simp
            try with_reducible rfl
          try simp only [Act.put, List.getElem_toArray, List.getElem_cons_zero, List.getElem_cons_succ, List.setIfInBounds_toArray, List.set_cons_zero, List.set_cons_succ]
          refine tkH (i := 9) (v := ?_) (fun V hV => ?_) ?_
          rotate_left
          · go_simp
            try with_reducible rfl
          try simp only [Act.put, List.getElem_toArray, List.getElem_cons_zero, List.getElem_cons_succ, List.setIfInBounds_toArray, List.set_cons_zero, List.set_cons_succ]
          refine tkU (i := 10) ?_
          try simp only [Act.put, List.getElem_toArray, List.getElem_cons_zero, List.getElem_cons_succ, List.setIfInBounds_toArray, List.set_cons_zero, List.set_cons_succ]
          refine tkU (i := 11) ?_
          try simp only [Act.put, List.getElem_toArray, List.getElem_cons_zero, List.getElem_cons_succ, List.setIfInBounds_toArray, List.set_cons_zero, List.set_cons_succ]
          refine tkU (i := 12) ?_
          try simp only [Act.put, List.getElem_toArray, List.getElem_cons_zero, List.getElem_cons_succ, List.setIfInBounds_toArray, List.set_cons_zero, List.set_cons_succ]
          refine tkU (i := 13) ?_
          try simp only [Act.put, List.getElem_toArray, List.getElem_cons_zero, List.getElem_cons_succ, List.setIfInBounds_toArray, List.set_cons_zero, List.set_cons_succ]
          refine tkU (i := 14) ?_
          try simp only [Act.put, List.getElem_toArray, List.getElem_cons_zero, List.getElem_cons_succ, List.setIfInBounds_toArray, List.set_cons_zero, List.set_cons_succ]
          refine tkU (i := 15) ?_
          try simp only [Act.put, List.getElem_toArray, List.getElem_cons_zero, List.getElem_cons_succ, List.setIfInBounds_toArray, List.set_cons_zero, List.set_cons_succ]
          refine tkU (i := 16) ?_
          try simp only [Act.put, List.getElem_toArray, List.getElem_cons_zero, List.getElem_cons_succ, List.setIfInBounds_toArray, List.set_cons_zero, List.set_cons_succ]
          refine tkU (i := 17) ?_
          try simp only [Act.put, List.getElem_toArray, List.getElem_cons_zero, List.getElem_cons_succ, List.setIfInBounds_toArray, List.set_cons_zero, List.set_cons_succ]
          refine tkU (i := 18) ?_
          try simp only [Act.put, List.getElem_toArray, List.getElem_cons_zero, List.getElem_cons_succ, List.setIfInBounds_toArray, List.set_cons_zero, List.set_cons_succ]
          refine tkU (i := 19) ?_
          try simp only [Act.put, List.getElem_toArray, List.getElem_cons_zero, List.getElem_cons_succ, List.setIfInBounds_toArray, List.set_cons_zero, List.set_cons_succ]
          refine tkU (i := 20) ?_
          try simp only [Act.put, List.getElem_toArray, List.getElem_cons_zero, List.getElem_cons_succ, List.setIfInBounds_toArray, List.set_cons_zero, List.set_cons_succ]
          refine tkU (i := 21) ?_
          try simp only [Act.put, List.getElem_toArray, List.getElem_cons_zero, List.getElem_cons_succ, List.setIfInBounds_toArray, List.set_cons_zero, List.set_cons_succ]
          refine tkU (i := 22) ?_
          try simp only [Act.put, List.getElem_toArray, List.getElem_cons_zero, List.getElem_cons_succ, List.setIfInBounds_toArray, List.set_cons_zero, List.set_cons_succ]
          refine tkU (i := 23) ?_
          try simp only [Act.put, List.getElem_toArray, List.getElem_cons_zero, List.getElem_cons_succ, List.setIfInBounds_toArray, List.set_cons_zero, List.set_cons_succ]
          refine tkH (i := 24) (v := ?_) (fun V hV => ?_) ?_
          rotate_left
          · go_simp
            try with_reducible rfl
          try simp only [Act.put, List.getElem_toArray, List.getElem_cons_zero, List.getElem_cons_succ, List.setIfInBounds_toArray, List.set_cons_zero, List.set_cons_succ]
          refine tkH (i := 25) (v := ?_) (fun V hV => ?_) ?_
          rotate_left
          · go_simp
            try with_reducible rfl
          try simp only [Act.put, List.getElem_toArray, List.getElem_cons_zero, List.getElem_cons_succ, List.setIfInBounds_toArray, List.set_cons_zero, List.set_cons_succ]
          refine wpAnyH_ready (rs := [26]) (by kernel_rfl) (by simp) ?_
          refine AllReadyH.cons (o := _) rfl (fun K hK => ?_) AllReadyH.nil
          have HBp : Hid (Below wr.heap.size wr wr.drew) := (Below.refl _ _).drew
          have HX7 := hid (HX.out.below HBp.out)
          have g0 := (HX.out.get6 hlt).1; have f0 := (HX.out.get6 hlt).2
          obtain ⟨W8, hW8⟩ : ∃ V, (wr.setCell ⟨w.heap.size + 2, k, none⟩ (.bool true)).drew = V := ⟨_, rfl⟩
          have HX8 : Hid (BoxIs (w.heap.size + 2) (B6 fun i => decide (i < k + 1) && rightF s t i) W8) := by show BoxIs _ _ _; rw [← hW8]; exact HSET.out wr.drew _ HX7.out HY7.out
          have HB8 : Hid (Below (w.heap.size + 2) wr W8) := by show Below _ _ _; rw [← hW8]; exact Below.setCell (show Below (w.heap.size + 2) wr wr.drew from HBp.out.mono (by omega)) (p := ⟨w.heap.size + 2, k, none⟩) (Nat.le_refl _) _
          go_simp
          clear g0 f0
          refine hK.out _ _ (HB8.out) (fun hS => ?_)
          clear hK K
          try simp only [List.setIfInBounds_toArray, List.set_cons_zero, List.set_cons_succ]
          refine wpAnyH_done (by kernel_rfl) ?_ _
          clear hS hW8 hBW
          have HB9 : Hid (Boxed1 w #[.int .i64 t.a, .int .i64 t.b, .int .i64 t.half, .int .i64 t.peak] 94 W8) := Below.trans HB.out (HB8.out.mono (by omega))
          have HR9 : Hid (BoxIs (w.heap.size + 1) (B6 fun _ => false) W8) := HR.out.keep HB8.out (by omega)
          have HW9 : Hid (WorkAt W8 b s p n c bm) := HWW.out.kept (HB8.out.block b (by omega))
          have HM9 : Hid (MapV W8 94 bm nn M) := HMM.out.kept (HB8.out.block bm (by omega))
          go_wp2_with fail
          go_roundw
          case rel => exact ⟨k + 1, by omega, by go_num, HX8.out, HB9.out, HR9.out, HW9.out, HM9.out⟩
          case measure => simp [intOf]; omega
        · have hkn2 := hkn
          obtain ⟨x, hx, b1, o1, rfl, hb1, _⟩ := HCS.out.at (i := k) (by omega)
          obtain ⟨x', hx', b1', o1', e1, _, hc0, hc1, hc2, hc3, hc4, hc5, hc6⟩ := (HCS.out.below HB.out.below).at (i := k) (by omega)
          cases e1
          rw [hx] at hx'
          cases hx'
          have HY7 : Hid (fitsB s t x = rightF s t k) := by show _ = _; rw [rightF, hx]
          have HXK := hid (HSK.out x (List.mem_of_getElem? hx))
          clear hx
          have hw := HWW.out.sto; have hbx := TruAt.of HB.out.cell
          have HCE : Hid (∀ V, Below (w.heap.size + 2) wr V → StoAt V b s (some ⟨b1, o1, none⟩) n c ∧ TruAt V w.heap.size t ∧ V.cell? ⟨b1, o1 + k * 7, none⟩ = some (.int .i64 x.x.lo) ∧ V.cell? ⟨b1, o1 + k * 7 + 1, none⟩ = some (.int .i64 x.x.hi) ∧ V.cell? ⟨b1, o1 + k * 7 + 2, none⟩ = some (.int .i64 x.y.lo) ∧ V.cell? ⟨b1, o1 + k * 7 + 3, none⟩ = some (.int .i64 x.y.hi) ∧ V.cell? ⟨b1, o1 + k * 7 + 4, none⟩ = some (.bool x.hail) ∧ V.cell? ⟨b1, o1 + k * 7 + 5, none⟩ = some (.int .i64 x.size.lo) ∧ V.cell? ⟨b1, o1 + k * 7 + 6, none⟩ = some (.int .i64 x.size.hi)) := fun V hV => by
            have kk : ∀ (a : Addr) (v : Value), a.block < w.heap.size + 2 → wr.cell? a = some v → V.cell? a = some v := fun a v ha h => (hV.cell ha).trans h
            exact ⟨hw.kept (hV.block b (by omega)), hbx.kept (hV.block w.heap.size (by omega)), kk _ _ (by show b1 < w.heap.size + 2; omega) hc0, kk _ _ (by show b1 < w.heap.size + 2; omega) hc1, kk _ _ (by show b1 < w.heap.size + 2; omega) hc2, kk _ _ (by show b1 < w.heap.size + 2; omega) hc3, kk _ _ (by show b1 < w.heap.size + 2; omega) hc4, kk _ _ (by show b1 < w.heap.size + 2; omega) hc5, kk _ _ (by show b1 < w.heap.size + 2; omega) hc6⟩
          clear hc0 hc1 hc2 hc3 hc4 hc5 hc6 hw hbx
          have hge : decide ((n : Int) ≤ k) = false := by simp; omega
          have hkl : k < n := by omega
          clear g0 f0
          go_wp2_with fail
          refine wp_region_held_drew (S := fun V => Below (w.heap.size + 2) wr V) (by kernel_rfl) (hBW) (fun hS => ?_)
          simp only [List.size_toArray, List.length_cons, List.length_nil, Nat.reduceAdd, Array.replicate_succ, Array.replicate_zero, List.push_toArray, List.nil_append, List.cons_append]
          refine tkH (i := 0) (v := ?_) (fun V hV => ?_) ?_
          rotate_left
          · go_simp
            try with_reducible rfl
          try simp only [Act.put, List.getElem_toArray, List.getElem_cons_zero, List.setIfInBounds_toArray, List.set_cons_zero, List.set_cons_succ]
          refine tkH (i := 1) (v := ?_) (fun V hV => ?_) ?_
          rotate_left
          · go_simp
            try with_reducible rfl
          try simp only [Act.put, List.getElem_toArray, List.getElem_cons_zero, List.getElem_cons_succ, List.setIfInBounds_toArray, List.set_cons_zero, List.set_cons_succ]
          refine tkH (i := 2) (v := ?_) (fun V hV => ?_) ?_
          rotate_left
          · go_simp
            try with_reducible rfl
          try simp only [Act.put, List.getElem_toArray, List.getElem_cons_zero, List.getElem_cons_succ, List.setIfInBounds_toArray, List.set_cons_zero, List.set_cons_succ]
          refine tkH (i := 3) (v := ?_) (fun V hV => ?_) ?_
          rotate_left
          · go_simp
            try with_reducible rfl
          try simp only [Act.put, List.getElem_toArray, List.getElem_cons_zero, List.getElem_cons_succ, List.setIfInBounds_toArray, List.set_cons_zero, List.set_cons_succ]
          refine tkH (i := 4) (v := ?_) (fun V hV => ?_) ?_
          rotate_left
          · go_simp
            try with_reducible rfl
          try simp only [Act.put, List.getElem_toArray, List.getElem_cons_zero, List.getElem_cons_succ, List.setIfInBounds_toArray, List.set_cons_zero, List.set_cons_succ]
          refine tkH (i := 5) (v := ?_) (fun V hV => ?_) ?_
          rotate_left
          · go_simp
            try with_reducible rfl
          try simp only [Act.put, List.getElem_toArray, List.getElem_cons_zero, List.getElem_cons_succ, List.setIfInBounds_toArray, List.set_cons_zero, List.set_cons_succ]
          refine tkH (i := 6) (v := ?_) (fun V hV => ?_) ?_
          rotate_left
          · have e0 := (HCE.out V hV).1.c11; go_simp
            try with_reducible rfl
          try simp only [Act.put, List.getElem_toArray, List.getElem_cons_zero, List.getElem_cons_succ, List.setIfInBounds_toArray, List.set_cons_zero, List.set_cons_succ]
          refine tkH (i := 7) (v := ?_) (fun V hV => ?_) ?_
          rotate_left
          · go_simp
            try with_reducible rfl
          try simp only [Act.put, List.getElem_toArray, List.getElem_cons_zero, List.getElem_cons_succ, List.setIfInBounds_toArray, List.set_cons_zero, List.set_cons_succ]
          refine tkH (i := 8) (v := ?_) (fun V hV => ?_) ?_
          rotate_left
          · go_simp
            try with_reducible rfl
          try simp only [Act.put, List.getElem_toArray, List.getElem_cons_zero, List.getElem_cons_succ, List.setIfInBounds_toArray, List.set_cons_zero, List.set_cons_succ]
          refine tkH (i := 9) (v := ?_) (fun V hV => ?_) ?_
          rotate_left
          · go_simp
            try with_reducible rfl
          try simp only [Act.put, List.getElem_toArray, List.getElem_cons_zero, List.getElem_cons_succ, List.setIfInBounds_toArray, List.set_cons_zero, List.set_cons_succ]
          refine tkH (i := 10) (v := ?_) (fun V hV => ?_) ?_
          rotate_left
          · go_simp
            try with_reducible rfl
          try simp only [Act.put, List.getElem_toArray, List.getElem_cons_zero, List.getElem_cons_succ, List.setIfInBounds_toArray, List.set_cons_zero, List.set_cons_succ]
          refine tkH (i := 11) (v := ?_) (fun V hV => ?_) ?_
          rotate_left
          · go_simp
            try with_reducible rfl
          try simp only [Act.put, List.getElem_toArray, List.getElem_cons_zero, List.getElem_cons_succ, List.setIfInBounds_toArray, List.set_cons_zero, List.set_cons_succ]
          refine tkH (i := 12) (v := ?_) (fun V hV => ?_) ?_
          rotate_left
          · go_simp
            try with_reducible rfl
          try simp only [Act.put, List.getElem_toArray, List.getElem_cons_zero, List.getElem_cons_succ, List.setIfInBounds_toArray, List.set_cons_zero, List.set_cons_succ]
          refine tkH (i := 13) (v := ?_) (fun V hV => ?_) ?_
          rotate_left
          · have e0 := (HCE.out V hV).1.c0; have e1 := (HCE.out V hV).1.c1; have e2 := (HCE.out V hV).1.c2; have e3 := (HCE.out V hV).1.c3; have e4 := (HCE.out V hV).1.c4; have e5 := (HCE.out V hV).1.c5; have e6 := (HCE.out V hV).1.c6; have e7 := (HCE.out V hV).1.c7; have e8 := (HCE.out V hV).1.c8; have e9 := (HCE.out V hV).1.c9; have e10 := (HCE.out V hV).1.c10; have e11 := (HCE.out V hV).1.c11; go_simp
            try with_reducible rfl
          try simp only [Act.put, List.getElem_toArray, List.getElem_cons_zero, List.getElem_cons_succ, List.setIfInBounds_toArray, List.set_cons_zero, List.set_cons_succ]
          refine tkH (i := 14) (v := ?_) (fun V hV => ?_) ?_
          rotate_left
          · have f0 := (HCE.out V hV).2.1.c0; have f1 := (HCE.out V hV).2.1.c1; have f2 := (HCE.out V hV).2.1.c2; have f3 := (HCE.out V hV).2.1.c3; go_simp
            try with_reducible rfl
          try simp only [Act.put, List.getElem_toArray, List.getElem_cons_zero, List.getElem_cons_succ, List.setIfInBounds_toArray, List.set_cons_zero, List.set_cons_succ]
          refine tkH (i := 15) (v := ?_) (fun V hV => ?_) ?_
          rotate_left
          · go_simp
            try with_reducible rfl
          try simp only [Act.put, List.getElem_toArray, List.getElem_cons_zero, List.getElem_cons_succ, List.setIfInBounds_toArray, List.set_cons_zero, List.set_cons_succ]
          refine tkH (i := 16) (v := ?_) (fun V hV => ?_) ?_
          rotate_left
          · go_simp
            try with_reducible rfl
          try simp only [Act.put, List.getElem_toArray, List.getElem_cons_zero, List.getElem_cons_succ, List.setIfInBounds_toArray, List.set_cons_zero, List.set_cons_succ]
          refine tkH (i := 17) (v := ?_) (fun V hV => ?_) ?_
          rotate_left
          · go_simp
            try with_reducible rfl
          try simp only [Act.put, List.getElem_toArray, List.getElem_cons_zero, List.getElem_cons_succ, List.setIfInBounds_toArray, List.set_cons_zero, List.set_cons_succ]
          refine tkH (i := 18) (v := ?_) (fun V hV => ?_) ?_
          rotate_left
          · go_simp
            try with_reducible rfl
          try simp only [Act.put, List.getElem_toArray, List.getElem_cons_zero, List.getElem_cons_succ, List.setIfInBounds_toArray, List.set_cons_zero, List.set_cons_succ]
          refine tkH (i := 19) (v := ?_) (fun V hV => ?_) ?_
          rotate_left
          · have e0 := (HCE.out V hV).1.c11; go_simp
            try with_reducible rfl
          try simp only [Act.put, List.getElem_toArray, List.getElem_cons_zero, List.getElem_cons_succ, List.setIfInBounds_toArray, List.set_cons_zero, List.set_cons_succ]
          refine tkH (i := 20) (v := ?_) (fun V hV => ?_) ?_
          rotate_left
          · go_simp
            try with_reducible rfl
          try simp only [Act.put, List.getElem_toArray, List.getElem_cons_zero, List.getElem_cons_succ, List.setIfInBounds_toArray, List.set_cons_zero, List.set_cons_succ]
          refine tkH (i := 21) (v := ?_) (fun V hV => ?_) ?_
          rotate_left
          · go_simp
            try with_reducible rfl
          try simp only [Act.put, List.getElem_toArray, List.getElem_cons_zero, List.getElem_cons_succ, List.setIfInBounds_toArray, List.set_cons_zero, List.set_cons_succ]
          refine tkH (i := 22) (v := ?_) (fun V hV => ?_) ?_
          rotate_left
          · have ⟨_, _, d0, d1, d2, d3, d4, d5, d6⟩ := HCE.out V hV; go_simp
            try with_reducible rfl
          try simp only [Act.put, List.getElem_toArray, List.getElem_cons_zero, List.getElem_cons_succ, List.setIfInBounds_toArray, List.set_cons_zero, List.set_cons_succ]
          refine wpAnyH_ready (rs := [23]) (by kernel_rfl) (by simp) ?_
          refine AllReadyH.cons (o := _) rfl (fun K hK => ?_) AllReadyH.nil
          go_simp
          (with_reducible refine (fits_any _ _ _ _ _ x _ HSS.out HT.out HXK.out).mono ?_)
          rintro e W7 ⟨rfl, hb⟩
          have HB7 : Hid (Below wr.heap.size wr W7) := (Below.refl _ _).drew.trans hb
          clear hb
          refine hK.out _ _ (HB7.out.mono (by omega)) (fun hS => ?_)
          clear hK K
          try simp only [List.setIfInBounds_toArray, List.set_cons_zero, List.set_cons_succ]
          refine tkH (i := 24) (v := ?_) (fun V hV => ?_) ?_
          rotate_left
          · go_simp
            try with_reducible rfl
          try simp only [Act.put, List.getElem_toArray, List.getElem_cons_zero, List.getElem_cons_succ, List.setIfInBounds_toArray, List.set_cons_zero, List.set_cons_succ]
          refine tkH (i := 25) (v := ?_) (fun V hV => ?_) ?_
          rotate_left
          · go_simp
            try with_reducible rfl
          try simp only [Act.put, List.getElem_toArray, List.getElem_cons_zero, List.getElem_cons_succ, List.setIfInBounds_toArray, List.set_cons_zero, List.set_cons_succ]
          refine wpAnyH_ready (rs := [26]) (by kernel_rfl) (by simp) ?_
          refine AllReadyH.cons (o := _) rfl (fun K hK => ?_) AllReadyH.nil
          have HBp : Hid (Below wr.heap.size wr W7) := HB7.out
          have HX7 := hid (HX.out.below HBp.out)
          have g0 := (HX7.out.get6 hlt).1; have f0 := (HX7.out.get6 hlt).2
          obtain ⟨W8, hW8⟩ : ∃ V, W7.setCell ⟨w.heap.size + 2, k, none⟩ (.bool (fitsB s t x)) = V := ⟨_, rfl⟩
          have HX8 : Hid (BoxIs (w.heap.size + 2) (B6 fun i => decide (i < k + 1) && rightF s t i) W8) := by show BoxIs _ _ _; rw [← hW8]; exact HSET.out W7 _ HX7.out HY7.out
          have HB8 : Hid (Below (w.heap.size + 2) wr W8) := by show Below _ _ _; rw [← hW8]; exact Below.setCell (show Below (w.heap.size + 2) wr W7 from HBp.out.mono (by omega)) (p := ⟨w.heap.size + 2, k, none⟩) (Nat.le_refl _) _
          go_simp
          clear g0 f0
          refine hK.out _ _ (HB8.out) (fun hS => ?_)
          clear hK K
          try simp only [List.setIfInBounds_toArray, List.set_cons_zero, List.set_cons_succ]
          refine wpAnyH_done (by kernel_rfl) ?_ _
          clear hS hW8 hBW
          have HB9 : Hid (Boxed1 w #[.int .i64 t.a, .int .i64 t.b, .int .i64 t.half, .int .i64 t.peak] 94 W8) := Below.trans HB.out (HB8.out.mono (by omega))
          have HR9 : Hid (BoxIs (w.heap.size + 1) (B6 fun _ => false) W8) := HR.out.keep HB8.out (by omega)
          have HW9 : Hid (WorkAt W8 b s (some ⟨b1, o1, none⟩) n c bm) := HWW.out.kept (HB8.out.block b (by omega))
          have HM9 : Hid (MapV W8 94 bm nn M) := HMM.out.kept (HB8.out.block bm (by omega))
          go_wp2_with fail
          go_roundw
          case rel => exact ⟨k + 1, by omega, by go_num, HX8.out, HB9.out, HR9.out, HW9.out, HM9.out⟩
          case measure => simp [intOf]; omega
      · obtain rfl : k = 6 := by omega
        have HX6 : Hid (BoxIs (w.heap.size + 2) (B6 (rightF s t)) wr) := by
          show BoxIs _ _ _
          have h := HX.out
          rwa [B6_ext (g := rightF s t) (fun i hi => by simp [hi])] at h
        have hmd : MapV wr.drew 94 bm nn M := HMM.out.below (Below.refl _ _).drew
        obtain ⟨W9, hrun, hM9, hg9⟩ := hmd.put Try.key94 Try.underlying163 hnn HKEY.out (.agg (B6 (rightF s t)))
        have HN9 : Hid (Near (fun i => i = bm) wr W9) := hid ((Near.refl _ wr).drew.grown hg9 (fun i e _ => by cases e; rfl))
        have HM9 := hid hM9
        unfold truV B6 at hrun
        clear hM9 hg9 hmd hnn
        have HBX := hid (TruAt.of HB.out.cell)
        go_wp2_with fail
        refine wp_region_held_drew (S := fun V => TruAt V w.heap.size t ∧ V.cell? ⟨b, 12, none⟩ = some (.map (some bm)) ∧ BoxIs (w.heap.size + 2) (B6 (rightF s t)) V) (by kernel_rfl) (⟨HBX.out.below (Below.refl _ _).drew, HWW.out.c12, HX6.out⟩) (fun hS => ?_)
        simp only [List.size_toArray, List.length_cons, List.length_nil, Nat.reduceAdd, Array.replicate_succ, Array.replicate_zero, List.push_toArray, List.nil_append, List.cons_append]
        refine tkH (i := 0) (v := ?_) (fun V hV => ?_) ?_
        rotate_left
        · go_simp
          try with_reducible rfl
        try simp only [Act.put, List.getElem_toArray, List.getElem_cons_zero, List.setIfInBounds_toArray, List.set_cons_zero, List.set_cons_succ]
        refine tkH (i := 1) (v := ?_) (fun V hV => ?_) ?_
        rotate_left
        · go_simp
          try with_reducible rfl
        try simp only [Act.put, List.getElem_toArray, List.getElem_cons_zero, List.getElem_cons_succ, List.setIfInBounds_toArray, List.set_cons_zero, List.set_cons_succ]
        refine tkH (i := 2) (v := ?_) (fun V hV => ?_) ?_
        rotate_left
        · go_simp
          try with_reducible rfl
        try simp only [Act.put, List.getElem_toArray, List.getElem_cons_zero, List.getElem_cons_succ, List.setIfInBounds_toArray, List.set_cons_zero, List.set_cons_succ]
        refine tkH (i := 3) (v := ?_) (fun V hV => ?_) ?_
        rotate_left
        · have e0 := hV.2.1; go_simp
          try with_reducible rfl
        try simp only [Act.put, List.getElem_toArray, List.getElem_cons_zero, List.getElem_cons_succ, List.setIfInBounds_toArray, List.set_cons_zero, List.set_cons_succ]
        refine tkH (i := 4) (v := ?_) (fun V hV => ?_) ?_
        rotate_left
        · have f0 := hV.1.c0; have f1 := hV.1.c1; have f2 := hV.1.c2; have f3 := hV.1.c3; go_simp
          try with_reducible rfl
        try simp only [Act.put, List.getElem_toArray, List.getElem_cons_zero, List.getElem_cons_succ, List.setIfInBounds_toArray, List.set_cons_zero, List.set_cons_succ]
        refine tkH (i := 5) (v := ?_) (fun V hV => ?_) ?_
        rotate_left
        · have f0 := (hV.2.2.get6 (k := 0) (by decide)).1; have f1 := (hV.2.2.get6 (k := 1) (by decide)).1; have f2 := (hV.2.2.get6 (k := 2) (by decide)).1; have f3 := (hV.2.2.get6 (k := 3) (by decide)).1; have f4 := (hV.2.2.get6 (k := 4) (by decide)).1; have f5 := (hV.2.2.get6 (k := 5) (by decide)).1; go_simp
          try with_reducible rfl
        try simp only [Act.put, List.getElem_toArray, List.getElem_cons_zero, List.getElem_cons_succ, List.setIfInBounds_toArray, List.set_cons_zero, List.set_cons_succ]
        refine wpAnyH_ready (rs := [6]) (by kernel_rfl) (by simp) ?_
        refine AllReadyH.cons (o := _) rfl (fun K hK => ?_) AllReadyH.nil
        go_simp
        refine hK.out _ _ (⟨HBX.out.kept (HN9.out.block _ HBX.out.lt (by omega)), (World.cell?_of_block (HN9.out.block b HWW.out.lt (by omega))).trans HWW.out.c12, HX6.out.near HN9.out (by omega)⟩) (fun hS => ?_)
        clear hK K
        try simp only [List.setIfInBounds_toArray, List.set_cons_zero, List.set_cons_succ]
        refine wpAnyH_done (by kernel_rfl) ?_ _
        clear hS hrun
        have hn9 := HN9.out
        have HX9 := hid (HX6.out.near HN9.out (by omega))
        have HR9 := hid (HR.out.near HN9.out (by omega))
        clear hn9
        have g0 := (HX9.out.get6 (k := 0) (by decide)).1
        have g1 := (HX9.out.get6 (k := 1) (by decide)).1
        have g2 := (HX9.out.get6 (k := 2) (by decide)).1
        have g3 := (HX9.out.get6 (k := 3) (by decide)).1
        have g4 := (HX9.out.get6 (k := 4) (by decide)).1
        have g5 := (HX9.out.get6 (k := 5) (by decide)).1
        have r0 := (HR9.out.get6 (k := 0) (by decide)).1; have f0 := (HR9.out.get6 (k := 0) (by decide)).2
        have r1 := (HR9.out.get6 (k := 1) (by decide)).1; have f1 := (HR9.out.get6 (k := 1) (by decide)).2
        have r2 := (HR9.out.get6 (k := 2) (by decide)).1; have f2 := (HR9.out.get6 (k := 2) (by decide)).2
        have r3 := (HR9.out.get6 (k := 3) (by decide)).1; have f3 := (HR9.out.get6 (k := 3) (by decide)).2
        have r4 := (HR9.out.get6 (k := 4) (by decide)).1; have f4 := (HR9.out.get6 (k := 4) (by decide)).2
        have r5 := (HR9.out.get6 (k := 5) (by decide)).1; have f5 := (HR9.out.get6 (k := 5) (by decide)).2
        have HY := hid (HR9.out.put6 (g := rightF s t))
        go_wp2_with fail
        have y0 := (HY.out.get6 (k := 0) (by decide)).1
        have y1 := (HY.out.get6 (k := 1) (by decide)).1
        have y2 := (HY.out.get6 (k := 2) (by decide)).1
        have y3 := (HY.out.get6 (k := 3) (by decide)).1
        have y4 := (HY.out.get6 (k := 4) (by decide)).1
        have y5 := (HY.out.get6 (k := 5) (by decide)).1
        refine bodyPost_ret (v := .agg (B6 (rightF s t))) (by simp [B6, results, Try.f83, go_sem, y0, y1, y2, y3, y4, y5]) rfl ?_
        have hN := near_put6 (b := w.heap.size + 1) (Near.refl (fun i => i = w.heap.size + 1) W9) (fun _ => rfl) (.bool (rightF s t 0)) (.bool (rightF s t 1)) (.bool (rightF s t 2)) (.bool (rightF s t 3)) (.bool (rightF s t 4)) (.bool (rightF s t 5))
        refine ⟨rfl, _, HM9.out.kept (hN.block bm HM9.out.lt (by omega)), HKN.out.upd t, ?_⟩
        exact ((Near.of_below (S := fun i => i = bm) HB.out.below (fun i h1 h2 => by omega)).trans HN9.out).trans' hN (fun i h1 h2 => by omega)
  · have HVF : Hid (v = rightF s t) := HV1.out rfl
    rw [HVF.out] at HX2
    have g0 := (HX2.out.get6 (k := 0) (by decide)).1
    have g1 := (HX2.out.get6 (k := 1) (by decide)).1
    have g2 := (HX2.out.get6 (k := 2) (by decide)).1
    have g3 := (HX2.out.get6 (k := 3) (by decide)).1
    have g4 := (HX2.out.get6 (k := 4) (by decide)).1
    have g5 := (HX2.out.get6 (k := 5) (by decide)).1
    have r0 := (HR2.out.get6 (k := 0) (by decide)).1; have f0 := (HR2.out.get6 (k := 0) (by decide)).2
    have r1 := (HR2.out.get6 (k := 1) (by decide)).1; have f1 := (HR2.out.get6 (k := 1) (by decide)).2
    have r2 := (HR2.out.get6 (k := 2) (by decide)).1; have f2 := (HR2.out.get6 (k := 2) (by decide)).2
    have r3 := (HR2.out.get6 (k := 3) (by decide)).1; have f3 := (HR2.out.get6 (k := 3) (by decide)).2
    have r4 := (HR2.out.get6 (k := 4) (by decide)).1; have f4 := (HR2.out.get6 (k := 4) (by decide)).2
    have r5 := (HR2.out.get6 (k := 5) (by decide)).1; have f5 := (HR2.out.get6 (k := 5) (by decide)).2
    have HY := hid (HR2.out.put6 (g := rightF s t))
    go_wp2_with fail
    have y0 := (HY.out.get6 (k := 0) (by decide)).1
    have y1 := (HY.out.get6 (k := 1) (by decide)).1
    have y2 := (HY.out.get6 (k := 2) (by decide)).1
    have y3 := (HY.out.get6 (k := 3) (by decide)).1
    have y4 := (HY.out.get6 (k := 4) (by decide)).1
    have y5 := (HY.out.get6 (k := 5) (by decide)).1
    refine bodyPost_ret (v := .agg (B6 (rightF s t))) (by simp [B6, results, Try.f83, go_sem, y0, y1, y2, y3, y4, y5]) rfl ?_
    have hb : Below w.heap.size w _ := below_put6 HB3.out.below (show w.heap.size ≤ w.heap.size + 1 by omega) (.bool (rightF s t 0)) (.bool (rightF s t 1)) (.bool (rightF s t 2)) (.bool (rightF s t 3)) (.bool (rightF s t 4)) (.bool (rightF s t 5))
    exact ⟨rfl, M, (HM.out.below hb).more (by omega), HKN.out, Near.of_below hb (fun i h1 h2 => by omega)⟩
end Go.Proofs.Ytfnefkenheglhaa
