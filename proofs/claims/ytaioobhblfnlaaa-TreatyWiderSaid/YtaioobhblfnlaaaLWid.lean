/- TreatyWider: with a wider range of a loss, or of a report, no bounds are narrower, and no more reports have to be left out; a set that suffices for the wider losses suffices for the narrower ones. For each programme and three bytes. -/
import Derived.Test.YtaioobhblfnlaaaDA
namespace Go.Proofs.Ytaioobhblfnlaaa
open Go.RowKit


theorem Try.info55 : (Try.prog.info? 55).map (fun i => (i.zero, i.size, i.bytes)) = some (some (.agg #[.int .i64 0, .int .i64 0]), 2, 16) := by kernel_rfl
theorem Try.und22 : Try.prog.underlying 22 = some (.slice 55) := by kernel_rfl
theorem OwnRows.apart {α β : Type} {enc : α → List Value} {z : Nat} {T : TypeId} {w : World} {base : Nat} {v : Value} {l : List α} {enc' : β → List Value} {z' : Nat} {T' : TypeId} {base' : Nat} {v' : Value} {l' : List β}
    (h : OwnRows enc z T w base v l) (h' : OwnRows enc' z' T' w base' v' l') (hT : T ≠ T') : ∀ g, v.ownBlock = some g → some g ≠ v'.ownBlock := by
  intro g hg e
  rcases h.2 with ⟨rfl, _⟩ | ⟨a, _, _, rfl, _, hh, _⟩
  · cases hg
  · rcases h'.2 with ⟨rfl, _⟩ | ⟨b, _, _, rfl, _, hh', _⟩
    · cases e
    · cases hg
      have e2 : a = b := by simpa [Value.ownBlock] using e
      subst e2
      rw [hh] at hh'
      injection hh' with h1
      injection h1 with _ h3 _
      exact hT h3
theorem OwnRows.boxW {α : Type} {enc : α → List Value} {z : Nat} {T : TypeId} {w : World} {base : Nat} {v : Value} {l : List α} (h : OwnRows enc z T w base v l) :
    ∃ q c, v = .slice q l.length c ∧ (0 < l.length → ∃ g, q = some ⟨g, 0, none⟩ ∧ base ≤ g ∧ BoxIs g (l.flatMap enc).toArray w) := by
  have h0 := h
  rcases h.2 with ⟨rfl, hn⟩ | ⟨g, cap, cur, rfl, hg, hh, hn, hm, hs, ht⟩
  · exact ⟨none, 0, by rw [hn], fun hp => by omega⟩
  · refine ⟨_, cap, rfl, fun _ => ⟨g, rfl, hg, (Array.getElem?_eq_some_iff.1 hh).1, fun k v hk => ?_⟩⟩
    have e : ∀ y : Nat, (⟨g, 0, none⟩ : Addr).add y = ⟨g, 0 + y, none⟩ := fun y => by unfold Addr.add; split <;> simp_all
    have hk' : (l.flatMap enc)[k]? = some v := by simpa using hk
    have hc := World.ownsRow.cells h0 (g := g) rfl k v hk'
    rw [e, Nat.zero_add] at hc
    exact ⟨hc, by simp only [World.frozen?]; rw [hh]; rfl⟩
def TwoOwn (base : Nat) (ls : List Rng) (rs : List Rep) (ln rn : Nat) (ql qr : Option Addr) (W : World) : Prop :=
  RowsAt cellsR 2 W ql ln ls ∧ RowsAt cellsE 3 W qr rn rs ∧
  (0 < ln → ∃ g, ql = some ⟨g, 0, none⟩ ∧ base ≤ g ∧ BoxIs g (ls.flatMap cellsR).toArray W ∧ ∀ a, qr = some a → 0 < rn → a.block ≠ g) ∧
  (0 < rn → ∃ g, qr = some ⟨g, 0, none⟩ ∧ base ≤ g ∧ BoxIs g (rs.flatMap cellsE).toArray W ∧ ∀ a, ql = some a → 0 < ln → a.block ≠ g)
theorem TwoOwn.below {base : Nat} {ls : List Rng} {rs : List Rep} {ln rn : Nat} {ql qr : Option Addr} {W W' : World} (h : TwoOwn base ls rs ln rn ql qr W) (hb : Below W.heap.size W W') : TwoOwn base ls rs ln rn ql qr W' :=
  ⟨h.1.below hb, h.2.1.below hb, fun h0 => by obtain ⟨g, h1, h2, h3, h4⟩ := h.2.2.1 h0; exact ⟨g, h1, h2, h3.below hb, h4⟩, fun h0 => by obtain ⟨g, h1, h2, h3, h4⟩ := h.2.2.2 h0; exact ⟨g, h1, h2, h3.below hb, h4⟩⟩
theorem TwoOwn.of {base b1 b2 : Nat} {ls : List Rng} {rs : List Rep} {ln rn dl dr : Nat} {ql qr : Option Addr} {W : World} (h1 : OwnRows cellsR 2 55 W b1 (.slice ql ln dl) ls) (h2 : OwnRows cellsE 3 104 W b2 (.slice qr rn dr) rs) (hb1 : base ≤ b1) (hb2 : base ≤ b2) (hl : ln = ls.length) (hr : rn = rs.length) :
    TwoOwn base ls rs ln rn ql qr W := by
  have a1 := OwnRows.apart h1 h2 (by decide)
  have a2 := OwnRows.apart h2 h1 (by decide)
  obtain ⟨p1, c1, e1, k1⟩ := h1.boxW
  obtain ⟨p2, c2, e2, k2⟩ := h2.boxW
  obtain ⟨_, _, f1, r1⟩ := h1.slice cellsR_len
  obtain ⟨_, _, f2, r2⟩ := h2.slice cellsE_len
  cases e1; cases e2; cases f1; cases f2
  refine ⟨r1, r2, fun h0 => ?_, fun h0 => ?_⟩
  · obtain ⟨g, rfl, hg, hx⟩ := k1 h0
    exact ⟨g, rfl, Nat.le_trans hb1 hg, hx, fun a ha _ e => by subst ha; exact a1 g rfl (by rw [← e]; rfl)⟩
  · obtain ⟨g, rfl, hg, hx⟩ := k2 h0
    exact ⟨g, rfl, Nat.le_trans hb2 hg, hx, fun a ha _ e => by subst ha; exact a2 g rfl (by rw [← e]; rfl)⟩
theorem flatR_set (a : Rng) : ∀ (L : List Rng) (i : Nat), i < L.length → ((L.flatMap cellsR).set (i * 2) (.int .i64 a.lo)).set (i * 2 + 1) (.int .i64 a.hi) = (L.set i a).flatMap cellsR
  | [], i, h => by simp at h
  | x :: L, 0, _ => by simp [cellsR]
  | x :: L, i + 1, h => by
    have ih := flatR_set a L i (by simpa using h)
    simp only [List.flatMap_cons, List.set_cons_succ]
    rw [← ih]
    simp only [cellsR, List.cons_append, List.nil_append]
    rw [show (i + 1) * 2 = i * 2 + 1 + 1 by omega, show i * 2 + 1 + 1 + 1 = (i * 2 + 1) + 1 + 1 by omega]
    simp only [List.set_cons_succ]
theorem flatE_set (x0 : Rep) (a : Rng) : ∀ (L : List Rep) (i : Nat), L[i]? = some x0 → ((L.flatMap cellsE).set (i * 3 + 1) (.int .i64 a.lo)).set (i * 3 + 2) (.int .i64 a.hi) = (L.set i ⟨x0.tr, a⟩).flatMap cellsE
  | [], i, h => by simp at h
  | x :: L, 0, h => by simp at h; subst h; simp [cellsE]
  | x :: L, i + 1, h => by
    have ih := flatE_set x0 a L i (by simpa using h)
    simp only [List.flatMap_cons, List.set_cons_succ]
    rw [← ih]
    simp only [cellsE, List.cons_append, List.nil_append]
    rw [show (i + 1) * 3 + 1 = (i * 3 + 1) + 1 + 1 + 1 by omega, show (i + 1) * 3 + 2 = (i * 3 + 2) + 1 + 1 + 1 by omega]
    simp only [List.set_cons_succ]
theorem two_setR {base : Nat} {ls : List Rng} {rs : List Rep} {ln rn i g : Nat} {qr : Option Addr} {W : World} (h : TwoOwn base ls rs ln rn (some ⟨g, 0, none⟩) qr W) (hi : i < ln) (a : Rng) :
    TwoOwn base (ls.set i a) rs ln rn (some ⟨g, 0, none⟩) qr ((W.setCell ⟨g, i * 2, none⟩ (.int .i64 a.lo)).setCell ⟨g, i * 2 + 1, none⟩ (.int .i64 a.hi)) := by
  obtain ⟨r1, r2, k1, k2⟩ := h
  obtain ⟨g', e, hg, hx, hne⟩ := k1 (by omega)
  cases e
  have hn : Near (fun k => k = g) W ((W.setCell ⟨g, i * 2, none⟩ (.int .i64 a.lo)).setCell ⟨g, i * 2 + 1, none⟩ (.int .i64 a.hi)) := ((Near.refl (fun k => k = g) W).setCell (p := ⟨g, i * 2, none⟩) (fun _ => rfl) _).setCell (p := ⟨g, i * 2 + 1, none⟩) (fun _ => rfl) _
  have hx2 := (hx.put (j := i * 2) (.int .i64 a.lo)).put (j := i * 2 + 1) (.int .i64 a.hi)
  have e2 : ((ls.flatMap cellsR).toArray.setIfInBounds (i * 2) (.int .i64 a.lo)).setIfInBounds (i * 2 + 1) (.int .i64 a.hi) = ((ls.set i a).flatMap cellsR).toArray := by
    rw [← flatR_set a ls i (by have := r1.1; omega)]; simp
  rw [e2] at hx2
  have hl2 : ln = (ls.set i a).length := by rw [List.length_set]; exact r1.1
  have r2' := r2.kept hn.size (fun b hb h0 hlt => hn.block _ hlt (hne b hb h0))
  refine ⟨by have := BoxIs.rows cellsR_len hx2; rwa [← hl2] at this, r2', fun _ => ⟨g, rfl, hg, hx2, hne⟩, fun h0 => ?_⟩
  obtain ⟨g2, f1, f2, f3, f4⟩ := k2 h0
  exact ⟨g2, f1, f2, f3.far hn (fun e => hne _ f1 h0 e), f4⟩
theorem two_setE {base : Nat} {ls : List Rng} {rs : List Rep} {ln rn i g : Nat} {ql : Option Addr} {W : World} {x0 : Rep} (h : TwoOwn base ls rs ln rn ql (some ⟨g, 0, none⟩) W) (hi : rs[i]? = some x0) (a : Rng) :
    TwoOwn base ls (rs.set i ⟨x0.tr, a⟩) ln rn ql (some ⟨g, 0, none⟩) ((W.setCell ⟨g, i * 3 + 1, none⟩ (.int .i64 a.lo)).setCell ⟨g, i * 3 + 2, none⟩ (.int .i64 a.hi)) := by
  obtain ⟨r1, r2, k1, k2⟩ := h
  have hil := (List.getElem?_eq_some_iff.1 hi).1
  obtain ⟨g', e, hg, hx, hne⟩ := k2 (by have := r2.1; omega)
  cases e
  have hn : Near (fun k => k = g) W ((W.setCell ⟨g, i * 3 + 1, none⟩ (.int .i64 a.lo)).setCell ⟨g, i * 3 + 2, none⟩ (.int .i64 a.hi)) := ((Near.refl (fun k => k = g) W).setCell (p := ⟨g, i * 3 + 1, none⟩) (fun _ => rfl) _).setCell (p := ⟨g, i * 3 + 2, none⟩) (fun _ => rfl) _
  have hx2 := (hx.put (j := i * 3 + 1) (.int .i64 a.lo)).put (j := i * 3 + 2) (.int .i64 a.hi)
  have e2 : ((rs.flatMap cellsE).toArray.setIfInBounds (i * 3 + 1) (.int .i64 a.lo)).setIfInBounds (i * 3 + 2) (.int .i64 a.hi) = ((rs.set i ⟨x0.tr, a⟩).flatMap cellsE).toArray := by
    rw [← flatE_set x0 a rs i hi]; simp
  rw [e2] at hx2
  have hl2 : rn = (rs.set i ⟨x0.tr, a⟩).length := by rw [List.length_set]; exact r2.1
  have r1' := r1.kept hn.size (fun b hb h0 hlt => hn.block _ hlt (hne b hb h0))
  refine ⟨r1', by have := BoxIs.rows cellsE_len hx2; rwa [← hl2] at this, fun h0 => ?_, fun _ => ⟨g, rfl, hg, hx2, hne⟩⟩
  obtain ⟨g2, f1, f2, f3, f4⟩ := k1 h0
  exact ⟨g2, f1, f2, f3.far hn (fun e => hne _ f1 h0 e), f4⟩
theorem WiderP.rfl' (p : Prg) : WiderP p p := ⟨rfl, rfl, rfl, fun i a b ha hb => by rw [ha] at hb; cases hb; exact ⟨Int.le_refl _, Int.le_refl _⟩, rfl, fun i a b ha hb => by rw [ha] at hb; cases hb; exact ⟨rfl, Int.le_refl _, Int.le_refl _⟩⟩
theorem WiderP.setL {p : Prg} {i : Nat} {r a : Rng} (hi : p.losses[i]? = some r) (h1 : a.lo ≤ r.lo) (h2 : r.hi ≤ a.hi) : WiderP p { p with losses := p.losses.set i a } := by
  refine ⟨rfl, rfl, List.length_set, fun k x y hx hy => ?_, rfl, (WiderP.rfl' p).rep⟩
  rw [List.getElem?_set] at hy
  split at hy
  · rename_i e; subst e
    rw [hi] at hx; cases hx
    split at hy
    · cases hy; exact ⟨h1, h2⟩
    · cases hy
  · rw [hx] at hy; cases hy; exact ⟨Int.le_refl _, Int.le_refl _⟩
theorem WiderP.setR {p : Prg} {i : Nat} {r : Rep} {a : Rng} (hi : p.reps[i]? = some r) (h1 : a.lo ≤ r.paid.lo) (h2 : r.paid.hi ≤ a.hi) : WiderP p { p with reps := p.reps.set i ⟨r.tr, a⟩ } := by
  refine ⟨rfl, rfl, rfl, (WiderP.rfl' p).loss, List.length_set, fun k x y hx hy => ?_⟩
  rw [List.getElem?_set] at hy
  split at hy
  · rename_i e; subst e
    rw [hi] at hx; cases hx
    split at hy
    · cases hy; exact ⟨rfl, h1, h2⟩
    · cases hy
  · rw [hx] at hy; cases hy; exact ⟨rfl, Int.le_refl _, Int.le_refl _⟩

theorem rep_bd {p : Prg} (ok : OkP p) {r : Rep} (h : r ∈ p.reps) : 0 ≤ r.paid.lo ∧ r.paid.lo ≤ r.paid.hi ∧ r.paid.hi ≤ 10000 := by
  have := ok.rep r h
  omega
theorem price_smallW {p : Prg} (ok : OkP p) {X : List Int} (hX : IncrG p.ts.length 0 X) : 0 ≤ priceL p.ts X ∧ priceL p.ts X ≤ 9999 := by
  have hlen : X.length ≤ 5 := by
    have h5 := ok.m5
    by_cases h0 : X = []
    · rw [h0]; simp
    · have := incr_room p.ts.length X 0 hX h0; omega
  have hb : ∀ (l : List Int), 0 ≤ priceL p.ts l ∧ priceL p.ts l ≤ 1000 * l.length := by
    intro l
    induction l with
    | nil => simp [priceL]
    | cons a r ih =>
      have hp : 0 ≤ prI p.ts a ∧ prI p.ts a ≤ 1000 := by
        unfold prI
        cases h : p.ts[a.toNat]? with
        | none => simp
        | some t => exact ok.prices t (List.mem_of_getElem? h)
      rw [priceL, List.length_cons]
      push_cast
      omega
  have := hb X
  omega
theorem prove_bitsW {p : Prg} (ok : OkP p) {X : List Int} (hX : IncrG p.ts.length 0 X) : proveB p X 9999 = (setB p.ts X && sufB p X) := by
  rw [proveB, decide_eq_true (fault_iff.2 ok), Bool.true_and, decide_eq_true (price_smallW ok hX).2, Bool.true_and]; rfl
theorem prove_wider {p x : Prg} (h : WiderP p x) (ok : OkP p) (okx : OkP x) {X : List Int} (hX : IncrG p.ts.length 0 X) (hv : proveB x X 9999 = true) : proveB p X 9999 = true := by
  rw [prove_bitsW okx (by rw [h.ts]; exact hX), Bool.and_eq_true] at hv
  rw [prove_bitsW ok hX, Bool.and_eq_true]
  refine ⟨by rw [← h.ts]; exact hv.1, ?_⟩
  have h1 := hv.2
  unfold sufB at h1 ⊢
  rw [decide_eq_true_eq] at h1 ⊢
  have h2 := (h.kept ok okx X).2
  have h3 := h.reserve
  omega

set_option maxRecDepth 40000 in
set_option maxHeartbeats 16000000 in
theorem treatyWider_any (p : Prg) (lp : Option Addr) (ln lc : Nat) (tp : Option Addr) (tn tc : Nat) (rp : Option Addr) (rn rc : Nat) (wv yv bv : Int) (w : World) (hp : PrgAt w p lp ln tp tn rp rn) (hwv : 0 ≤ wv ∧ wv ≤ 255) (hyv : 0 ≤ yv ∧ yv ≤ 255) (hbv : 0 ≤ bv ∧ bv ≤ 255) : Calls Try.prog 13 #[.agg #[.slice lp ln lc, .int .i64 p.reserve, .slice tp tn tc, .slice rp rn rc], .int .u8 wv, .int .u8 yv, .int .u8 bv] w fun e w' => e = .returned (.bool true) ∧ Below w.heap.size w w' := by
  obtain ⟨V0, rfl⟩ : ∃ B : Nat, wv = (B : Int) := ⟨wv.toNat, by omega⟩
  have hV0 : V0 ≤ 255 := by omega
  obtain ⟨Y, rfl⟩ : ∃ Y : Nat, yv = (Y : Int) := ⟨yv.toNat, by omega⟩
  have hY : Y ≤ 255 := by omega
  obtain ⟨B, rfl⟩ : ∃ B : Nat, bv = (B : Int) := ⟨bv.toNat, by omega⟩
  have hB : B ≤ 255 := by omega
  have HP := hid hp
  have HTH := hid (fun W (hW : Below w.heap.size w W) => thin_any p lp ln lc tp tn tc rp rn rc W (hp.below hW))
  have HFL := hid (fun W (hW : Below w.heap.size w W) => faultL_any p lp ln lc tp tn tc rp rn rc W (hp.below hW))
  have HRD := hid (fun W (hW : Below w.heap.size w W) => ready_any p lp ln lc tp tn tc rp rn rc W (hp.below hW))
  clear hp hwv hyv hbv
  have H0 : Hid (Boxed1 w #[.slice lp ln lc, .int .i64 p.reserve, .slice tp tn tc, .slice rp rn rc] 26 (w.alloc (.cells #[.slice lp ln lc, .int .i64 p.reserve, .slice tp tn tc, .slice rp rn rc] 26))) := hid (Boxed1.start _ _ _)
  go_enter Try.func13, Try.ntmps13
  have e0 := H0.out.cell 0 (v := .slice lp ln lc) rfl; have e1 := H0.out.cell 1 (v := .int .i64 p.reserve) rfl; have e2 := H0.out.cell 2 (v := .slice tp tn tc) rfl; have e3 := H0.out.cell 3 (v := .slice rp rn rc) rfl
  go_wp2_with fail
  (with_reducible refine (HRD.out _ ?_).mono ?_)
  · exact H0.out.below
  rintro e w1 ⟨rfl, hb⟩
  have H1 := hid (H0.out.step hb)
  clear e0 e1 e2 e3 hb 
  cases hrd : readyB p
  · clear hrd
    go_wp2_with fail
    (with_reducible refine (awake_any _).mono ?_)
    rintro e w99 ⟨rfl, hb⟩
    go_wp2_with fail
    go_ret
    exact ⟨rfl, H1.out.below.trans (hb.mono H1.out.below.size)⟩
  · have HOK := hid (ready_iff.1 hrd).1; have HMY := hid (ready_iff.1 hrd).2
    have hln : ln ≤ 4 := by have := HP.out.l.1; have := HOK.out.n4; omega
    have htn : tn ≤ 5 := by have := HP.out.t.1; have := HOK.out.m5; omega
    have hrn : rn ≤ 5 := by have := HP.out.r.1; have := HOK.out.k5; omega
    have HF0 := hid (fault_iff.2 HOK.out)
    clear hrd
    have e0 := H1.out.cell 0 (v := .slice lp ln lc) rfl; have e1 := H1.out.cell 1 (v := .int .i64 p.reserve) rfl; have e2 := H1.out.cell 2 (v := .slice tp tn tc) rfl; have e3 := H1.out.cell 3 (v := .slice rp rn rc) rfl
    go_upto_region 4 with fail
    clear e0 e1 e2 e3 
    obtain ⟨w2, hw2⟩ : ∃ V, w1.alloc (.cells #[.slice lp ln lc, .int .i64 p.reserve, .slice tp tn tc, .slice rp rn rc] 26) = V := ⟨_, rfl⟩
    rw [hw2]
    have hb : Below w1.heap.size w1 w2 := by rw [← hw2]; exact (Below.refl _ _).alloc (Nat.le_refl _) _
    have HX : Hid (BoxIs w1.heap.size #[.slice lp ln lc, .int .i64 p.reserve, .slice tp tn tc, .slice rp rn rc] w2) := hid (by rw [← hw2]; exact BoxIs.start _ _ _)
    have HZX := hid H1.out.size
    clear hw2
    have H2 := hid (H1.out.step hb)
    clear hb
    obtain ⟨bx, hbx⟩ : ∃ b, w1.heap.size = b := ⟨_, rfl⟩
    rw [hbx] at HX HZX ⊢
    clear hbx
    go_cut [] from 25 (fun wr => ∃ ql dl qr dr, BoxIs bx #[.slice ql ln dl, .int .i64 p.reserve, .slice tp tn tc, .slice qr rn dr] wr ∧ TwoOwn (bx + 1) p.losses p.reps ln rn ql qr wr ∧ Boxed1 w #[.slice lp ln lc, .int .i64 p.reserve, .slice tp tn tc, .slice rp rn rc] 26 wr ∧ Below bx w2 wr)
    case first => as_aux_lemma =>
      obtain ⟨wd, hwd⟩ : ∃ V, w2.drew = V := ⟨_, rfl⟩
      have HD := hid H2.out.drew
      replace HX := hid (HX.out.below (Below.refl _ _).drew)
      rw [hwd] at HD HX
      have HWD : Hid (Below w2.heap.size w2 wd) := hid (by rw [← hwd]; exact (Below.refl _ _).drew)
      have hB : Hid (Below wd.heap.size wd wd) := hid (Below.refl _ _)
      have HBL : Hid (bx < wd.heap.size) := hid HX.out.1
      have HLO := hid HD.out.size
      have HBK : Hid (bx ≤ w2.heap.size) := hid (by have h1 := HBL.out; rw [← hwd] at h1; exact Nat.le_of_lt h1)
      refine wp_region_held_drew (S := fun V => Boxed1 w #[.slice lp ln lc, .int .i64 p.reserve, .slice tp tn tc, .slice rp rn rc] 26 V ∧ Below bx wd V) (by kernel_rfl) (by rw [hwd]; exact ⟨HD.out, Below.refl _ _⟩) (fun hS => ?_)
      rw [hwd] at hS ⊢
      clear hwd
      simp only [List.size_toArray, List.length_cons, List.length_nil, Nat.reduceAdd, Array.replicate_succ, Array.replicate_zero, List.push_toArray, List.nil_append, List.cons_append]
      refine tkH (i := 1) (v := ?_) (fun V hV => ?_) ?_
      rotate_left
      · go_simp
        try with_reducible rfl
      try simp only [Act.put, List.getElem_toArray, List.getElem_cons_zero, List.getElem_cons_succ, List.setIfInBounds_toArray, List.set_cons_zero, List.set_cons_succ]
      refine tkH (i := 2) (v := ?_) (fun V hV => ?_) ?_
      rotate_left
      · have x0 := hV.1.cell 0 (v := .slice lp ln lc) rfl; go_simp
        try with_reducible rfl
      try simp only [Act.put, List.getElem_toArray, List.getElem_cons_zero, List.getElem_cons_succ, List.setIfInBounds_toArray, List.set_cons_zero, List.set_cons_succ]
      refine tkH (i := 5) (v := ?_) (fun V hV => ?_) ?_
      rotate_left
      · go_simp
        try with_reducible rfl
      try simp only [Act.put, List.getElem_toArray, List.getElem_cons_zero, List.getElem_cons_succ, List.setIfInBounds_toArray, List.set_cons_zero, List.set_cons_succ]
      refine tkH (i := 6) (v := ?_) (fun V hV => ?_) ?_
      rotate_left
      · have x3 := hV.1.cell 3 (v := .slice rp rn rc) rfl; go_simp
        try with_reducible rfl
      try simp only [Act.put, List.getElem_toArray, List.getElem_cons_zero, List.getElem_cons_succ, List.setIfInBounds_toArray, List.set_cons_zero, List.set_cons_succ]
      refine wpAnyH_ready (rs := [0, 4]) (by kernel_rfl) (by simp) ?_
      refine AllReadyH.cons (o := _) rfl (fun K hK => ?_) ?_
      · skip
        obtain ⟨v0, hv0⟩ : ∃ V, wd.alloc (.cells #[] 55) = V := ⟨_, rfl⟩
        have hb : Below wd.heap.size wd v0 := by rw [← hv0]; exact (Below.refl _ _).alloc (Nat.le_refl _) _
        have HO : Hid (OwnRows cellsR 2 55 v0 wd.heap.size (.slice (some ⟨wd.heap.size, 0, none⟩) 0 0) []) := hid (by rw [← hv0]; exact World.ownsRow_lit wd #[] 0 hB.out.size (by decide) rfl)
        have HNX := hid (show Boxed1 w #[.slice lp ln lc, .int .i64 p.reserve, .slice tp tn tc, .slice rp rn rc] 26 v0 ∧ Below bx wd v0 from ⟨hS.1.step hb, hS.2.trans (hb.mono (Nat.le_of_lt (Nat.lt_of_lt_of_le HBL.out hB.out.size)))⟩)
        replace hB := hid (hB.out.trans (hb.mono hB.out.size))
        clear hb hS
        go_simp
        clear hv0
        refine hK.out _ _ (HNX.out) (fun hS => ?_)
        clear hK K
        try simp only [List.setIfInBounds_toArray, List.set_cons_zero]
        refine wpAnyH_ready (rs := [3, 4]) (by kernel_rfl) (by simp) ?_
        refine AllReadyH.cons (o := _) rfl (fun K hK => ?_) ?_
        · skip
          refine step_append_rows cellsR_len (by decide) cellsR_one 22 55 _ 16 (by decide) Try.info55 rfl Try.und22 (by rfl) (.tmp 30) (.tmp 32) (by rfl) wd.heap.size _ [] lp ln lc p.losses HO.out (by rfl) (by rfl) (HP.out.l.below hS.1.below) (by simp) (by omega) hB.out.size ?_
          intro a3 v3 ho hb hkk
          rw [List.nil_append] at ho
          obtain ⟨ql, dl, rfl, _⟩ := ho.slice cellsR_len
          rw [← HP.out.l.1] at ho ⊢
          have HOA := hid ho
          have HNX := hid (show Boxed1 w #[.slice lp ln lc, .int .i64 p.reserve, .slice tp tn tc, .slice rp rn rc] 26 v3 ∧ Below bx wd v3 from ⟨hS.1.step' (hb.mono HLO.out), hS.2.trans (hb.mono (Nat.le_of_lt HBL.out))⟩)
          replace hB := hid (hB.out.trans hb)
          clear hb hkk ho HO hS
          refine hK.out _ _ (HNX.out) (fun hS => ?_)
          clear hK K
          try simp only [Act.put, List.getElem_toArray, List.getElem_cons_zero, List.getElem_cons_succ, List.setIfInBounds_toArray, List.set_cons_zero, List.set_cons_succ]
          refine tkH (i := 8) (v := ?_) (fun V hV => ?_) ?_
          rotate_left
          · go_simp
            try with_reducible rfl
          try simp only [Act.put, List.getElem_toArray, List.getElem_cons_zero, List.getElem_cons_succ, List.setIfInBounds_toArray, List.set_cons_zero, List.set_cons_succ]
          refine wpAnyH_ready (rs := [4]) (by kernel_rfl) (by simp) ?_
          refine AllReadyH.cons (o := _) rfl (fun K hK => ?_) AllReadyH.nil
          obtain ⟨v4, hv4⟩ : ∃ V, v3.alloc (.cells #[] 104) = V := ⟨_, rfl⟩
          have hb : Below v3.heap.size v3 v4 := by rw [← hv4]; exact (Below.refl _ _).alloc (Nat.le_refl _) _
          have HE : Hid (OwnRows cellsE 3 104 v4 wd.heap.size (.slice (some ⟨v3.heap.size, 0, none⟩) 0 0) []) := hid (by rw [← hv4]; exact World.ownsRow_lit v3 #[] 0 hB.out.size (by decide) rfl)
          replace HOA := hid (HOA.out.below hb)
          have HNX := hid (show Boxed1 w #[.slice lp ln lc, .int .i64 p.reserve, .slice tp tn tc, .slice rp rn rc] 26 v4 ∧ Below bx wd v4 from ⟨hS.1.step hb, hS.2.trans (hb.mono (Nat.le_of_lt (Nat.lt_of_lt_of_le HBL.out hB.out.size)))⟩)
          replace hB := hid (hB.out.trans (hb.mono hB.out.size))
          clear hb hS
          go_simp
          clear hv4
          refine hK.out _ _ (HNX.out) (fun hS => ?_)
          clear hK K
          try simp only [List.setIfInBounds_toArray, List.set_cons_zero, List.set_cons_succ]
          refine wpAnyH_ready (rs := [7]) (by kernel_rfl) (by simp) ?_
          refine AllReadyH.cons (o := _) rfl (fun K hK => ?_) AllReadyH.nil
          refine step_append_rows cellsE_len (by decide) cellsE_one 24 104 _ 24 (by decide) Try.info104 rfl Try.und24 (by rfl) (.tmp 34) (.tmp 36) (by rfl) wd.heap.size _ [] rp rn rc p.reps HE.out (by rfl) (by rfl) (HP.out.r.below hS.1.below) (by simp) (by omega) hB.out.size ?_
          intro a7 v7 ho hb hkk
          rw [List.nil_append] at ho
          obtain ⟨qr, dr, rfl, _⟩ := ho.slice cellsE_len
          rw [← HP.out.r.1] at ho ⊢
          replace HOA := hid (HOA.out.block (fun g hg => hkk g (HOA.out.lt g hg).2 (OwnRows.apart HOA.out HE.out (by decide) g hg)))
          have HEA := hid ho
          have HNX := hid (show Boxed1 w #[.slice lp ln lc, .int .i64 p.reserve, .slice tp tn tc, .slice rp rn rc] 26 v7 ∧ Below bx wd v7 from ⟨hS.1.step' (hb.mono HLO.out), hS.2.trans (hb.mono (Nat.le_of_lt HBL.out))⟩)
          replace hB := hid (hB.out.trans hb)
          clear hb hkk ho HE hS
          refine hK.out _ _ (HNX.out) (fun hS => ?_)
          clear hK K
          try simp only [Act.put, List.getElem_toArray, List.getElem_cons_zero, List.getElem_cons_succ, List.setIfInBounds_toArray, List.set_cons_zero, List.set_cons_succ]
          refine wpAnyH_ready (rs := [9]) (by kernel_rfl) (by simp) ?_
          refine AllReadyH.cons (o := _) rfl (fun K hK => ?_) AllReadyH.nil
          replace HX := hid (HX.out.keep hB.out HBL.out)
          have kx := (HX.out.2 0 (.slice lp ln lc) rfl).1; have fx := (HX.out.2 0 (.slice lp ln lc) rfl).2
          have HNQ := hid ((Near.refl (fun i => i = bx) v7).setCell (p := ⟨bx, 0, none⟩) (fun _ => rfl) (.slice ql ln dl))
          replace HX := hid (HX.out.put (j := 0) (.slice ql ln dl))
          replace HOA := hid (HOA.out.near HNQ.out (fun k h1 h2 => by have := HBL.out; omega))
          replace HEA := hid (HEA.out.near HNQ.out (fun k h1 h2 => by have := HBL.out; omega))
          have HNX := hid (show Boxed1 w #[.slice lp ln lc, .int .i64 p.reserve, .slice tp tn tc, .slice rp rn rc] 26 (v7.setCell ⟨bx, 0, none⟩ (.slice ql ln dl)) ∧ Below bx wd (v7.setCell ⟨bx, 0, none⟩ (.slice ql ln dl)) from ⟨hS.1.step' ((Below.refl _ _).setCell (p := ⟨bx, 0, none⟩) HZX.out _), hS.2.setCell (p := ⟨bx, 0, none⟩) (Nat.le_refl _) _⟩)
          clear hS
          go_simp
          clear kx fx
          generalize (v7.setCell ⟨bx, 0, none⟩ (.slice ql ln dl)) = v9 at HX HOA HEA HNX HNQ ⊢
          clear HNQ
          refine hK.out _ _ (HNX.out) (fun hS => ?_)
          clear hK K
          try simp only [List.setIfInBounds_toArray, List.set_cons_zero, List.set_cons_succ]
          refine tkH (i := 10) (v := ?_) (fun V hV => ?_) ?_
          rotate_left
          · go_simp
            try with_reducible rfl
          try simp only [Act.put, List.getElem_toArray, List.getElem_cons_zero, List.getElem_cons_succ, List.setIfInBounds_toArray, List.set_cons_zero, List.set_cons_succ]
          refine wpAnyH_ready (rs := [11]) (by kernel_rfl) (by simp) ?_
          refine AllReadyH.cons (o := _) rfl (fun K hK => ?_) AllReadyH.nil
          have kx := (HX.out.2 3 (.slice rp rn rc) rfl).1; have fx := (HX.out.2 3 (.slice rp rn rc) rfl).2
          have HNQ := hid ((Near.refl (fun i => i = bx) v9).setCell (p := ⟨bx, 3, none⟩) (fun _ => rfl) (.slice qr rn dr))
          replace HX := hid (HX.out.put (j := 3) (.slice qr rn dr))
          replace HOA := hid (HOA.out.near HNQ.out (fun k h1 h2 => by have := HBL.out; omega))
          replace HEA := hid (HEA.out.near HNQ.out (fun k h1 h2 => by have := HBL.out; omega))
          have HNX := hid (show Boxed1 w #[.slice lp ln lc, .int .i64 p.reserve, .slice tp tn tc, .slice rp rn rc] 26 (v9.setCell ⟨bx, 3, none⟩ (.slice qr rn dr)) ∧ Below bx wd (v9.setCell ⟨bx, 3, none⟩ (.slice qr rn dr)) from ⟨hS.1.step' ((Below.refl _ _).setCell (p := ⟨bx, 3, none⟩) HZX.out _), hS.2.setCell (p := ⟨bx, 3, none⟩) (Nat.le_refl _) _⟩)
          clear hS
          go_simp
          clear kx fx
          generalize (v9.setCell ⟨bx, 3, none⟩ (.slice qr rn dr)) = v11 at HX HOA HEA HNX HNQ ⊢
          clear HNQ
          refine hK.out _ _ (HNX.out) (fun hS => ?_)
          clear hK K
          try simp only [List.setIfInBounds_toArray, List.set_cons_zero, List.set_cons_succ]
          refine wpAnyH_done (by kernel_rfl) ?_ _
          go_wp2
          go_meet
          case rel => exact ⟨ql, dl, qr, dr, HX.out, TwoOwn.of HOA.out HEA.out (Nat.succ_le_of_lt HBL.out) (Nat.succ_le_of_lt HBL.out) HP.out.l.1 HP.out.r.1, hS.1, Below.trans (HWD.out.mono HBK.out) hS.2⟩
        refine AllReadyH.cons (o := _) rfl (fun K hK => ?_) AllReadyH.nil
        obtain ⟨v4, hv4⟩ : ∃ V, v0.alloc (.cells #[] 104) = V := ⟨_, rfl⟩
        have hb : Below v0.heap.size v0 v4 := by rw [← hv4]; exact (Below.refl _ _).alloc (Nat.le_refl _) _
        have HE : Hid (OwnRows cellsE 3 104 v4 wd.heap.size (.slice (some ⟨v0.heap.size, 0, none⟩) 0 0) []) := hid (by rw [← hv4]; exact World.ownsRow_lit v0 #[] 0 hB.out.size (by decide) rfl)
        replace HO := hid (HO.out.below hb)
        have HNX := hid (show Boxed1 w #[.slice lp ln lc, .int .i64 p.reserve, .slice tp tn tc, .slice rp rn rc] 26 v4 ∧ Below bx wd v4 from ⟨hS.1.step hb, hS.2.trans (hb.mono (Nat.le_of_lt (Nat.lt_of_lt_of_le HBL.out hB.out.size)))⟩)
        replace hB := hid (hB.out.trans (hb.mono hB.out.size))
        clear hb hS
        go_simp
        clear hv4
        refine hK.out _ _ (HNX.out) (fun hS => ?_)
        clear hK K
        try simp only [List.setIfInBounds_toArray, List.set_cons_zero, List.set_cons_succ]
        refine wpAnyH_ready (rs := [3]) (by kernel_rfl) (by simp) ?_
        refine AllReadyH.cons (o := _) rfl (fun K hK => ?_) AllReadyH.nil
        refine step_append_rows cellsR_len (by decide) cellsR_one 22 55 _ 16 (by decide) Try.info55 rfl Try.und22 (by rfl) (.tmp 30) (.tmp 32) (by rfl) wd.heap.size _ [] lp ln lc p.losses HO.out (by rfl) (by rfl) (HP.out.l.below hS.1.below) (by simp) (by omega) hB.out.size ?_
        intro a3 v3 ho hb hkk
        rw [List.nil_append] at ho
        obtain ⟨ql, dl, rfl, _⟩ := ho.slice cellsR_len
        rw [← HP.out.l.1] at ho ⊢
        replace HE := hid (HE.out.block (fun g hg => hkk g (HE.out.lt g hg).2 (OwnRows.apart HE.out HO.out (by decide) g hg)))
        have HOA := hid ho
        have HNX := hid (show Boxed1 w #[.slice lp ln lc, .int .i64 p.reserve, .slice tp tn tc, .slice rp rn rc] 26 v3 ∧ Below bx wd v3 from ⟨hS.1.step' (hb.mono HLO.out), hS.2.trans (hb.mono (Nat.le_of_lt HBL.out))⟩)
        replace hB := hid (hB.out.trans hb)
        clear hb hkk ho HO hS
        refine hK.out _ _ (HNX.out) (fun hS => ?_)
        clear hK K
        try simp only [Act.put, List.getElem_toArray, List.getElem_cons_zero, List.getElem_cons_succ, List.setIfInBounds_toArray, List.set_cons_zero, List.set_cons_succ]
        refine tkH (i := 8) (v := ?_) (fun V hV => ?_) ?_
        rotate_left
        · go_simp
          try with_reducible rfl
        try simp only [Act.put, List.getElem_toArray, List.getElem_cons_zero, List.getElem_cons_succ, List.setIfInBounds_toArray, List.set_cons_zero, List.set_cons_succ]
        refine wpAnyH_ready (rs := [7]) (by kernel_rfl) (by simp) ?_
        refine AllReadyH.cons (o := _) rfl (fun K hK => ?_) AllReadyH.nil
        refine step_append_rows cellsE_len (by decide) cellsE_one 24 104 _ 24 (by decide) Try.info104 rfl Try.und24 (by rfl) (.tmp 34) (.tmp 36) (by rfl) wd.heap.size _ [] rp rn rc p.reps HE.out (by rfl) (by rfl) (HP.out.r.below hS.1.below) (by simp) (by omega) hB.out.size ?_
        intro a7 v7 ho hb hkk
        rw [List.nil_append] at ho
        obtain ⟨qr, dr, rfl, _⟩ := ho.slice cellsE_len
        rw [← HP.out.r.1] at ho ⊢
        replace HOA := hid (HOA.out.block (fun g hg => hkk g (HOA.out.lt g hg).2 (OwnRows.apart HOA.out HE.out (by decide) g hg)))
        have HEA := hid ho
        have HNX := hid (show Boxed1 w #[.slice lp ln lc, .int .i64 p.reserve, .slice tp tn tc, .slice rp rn rc] 26 v7 ∧ Below bx wd v7 from ⟨hS.1.step' (hb.mono HLO.out), hS.2.trans (hb.mono (Nat.le_of_lt HBL.out))⟩)
        replace hB := hid (hB.out.trans hb)
        clear hb hkk ho HE hS
        refine hK.out _ _ (HNX.out) (fun hS => ?_)
        clear hK K
        try simp only [Act.put, List.getElem_toArray, List.getElem_cons_zero, List.getElem_cons_succ, List.setIfInBounds_toArray, List.set_cons_zero, List.set_cons_succ]
        refine wpAnyH_ready (rs := [9]) (by kernel_rfl) (by simp) ?_
        refine AllReadyH.cons (o := _) rfl (fun K hK => ?_) AllReadyH.nil
        replace HX := hid (HX.out.keep hB.out HBL.out)
        have kx := (HX.out.2 0 (.slice lp ln lc) rfl).1; have fx := (HX.out.2 0 (.slice lp ln lc) rfl).2
        have HNQ := hid ((Near.refl (fun i => i = bx) v7).setCell (p := ⟨bx, 0, none⟩) (fun _ => rfl) (.slice ql ln dl))
        replace HX := hid (HX.out.put (j := 0) (.slice ql ln dl))
        replace HOA := hid (HOA.out.near HNQ.out (fun k h1 h2 => by have := HBL.out; omega))
        replace HEA := hid (HEA.out.near HNQ.out (fun k h1 h2 => by have := HBL.out; omega))
        have HNX := hid (show Boxed1 w #[.slice lp ln lc, .int .i64 p.reserve, .slice tp tn tc, .slice rp rn rc] 26 (v7.setCell ⟨bx, 0, none⟩ (.slice ql ln dl)) ∧ Below bx wd (v7.setCell ⟨bx, 0, none⟩ (.slice ql ln dl)) from ⟨hS.1.step' ((Below.refl _ _).setCell (p := ⟨bx, 0, none⟩) HZX.out _), hS.2.setCell (p := ⟨bx, 0, none⟩) (Nat.le_refl _) _⟩)
        clear hS
        go_simp
        clear kx fx
        generalize (v7.setCell ⟨bx, 0, none⟩ (.slice ql ln dl)) = v9 at HX HOA HEA HNX HNQ ⊢
        clear HNQ
        refine hK.out _ _ (HNX.out) (fun hS => ?_)
        clear hK K
        try simp only [List.setIfInBounds_toArray, List.set_cons_zero, List.set_cons_succ]
        refine tkH (i := 10) (v := ?_) (fun V hV => ?_) ?_
        rotate_left
        · go_simp
          try with_reducible rfl
        try simp only [Act.put, List.getElem_toArray, List.getElem_cons_zero, List.getElem_cons_succ, List.setIfInBounds_toArray, List.set_cons_zero, List.set_cons_succ]
        refine wpAnyH_ready (rs := [11]) (by kernel_rfl) (by simp) ?_
        refine AllReadyH.cons (o := _) rfl (fun K hK => ?_) AllReadyH.nil
        have kx := (HX.out.2 3 (.slice rp rn rc) rfl).1; have fx := (HX.out.2 3 (.slice rp rn rc) rfl).2
        have HNQ := hid ((Near.refl (fun i => i = bx) v9).setCell (p := ⟨bx, 3, none⟩) (fun _ => rfl) (.slice qr rn dr))
        replace HX := hid (HX.out.put (j := 3) (.slice qr rn dr))
        replace HOA := hid (HOA.out.near HNQ.out (fun k h1 h2 => by have := HBL.out; omega))
        replace HEA := hid (HEA.out.near HNQ.out (fun k h1 h2 => by have := HBL.out; omega))
        have HNX := hid (show Boxed1 w #[.slice lp ln lc, .int .i64 p.reserve, .slice tp tn tc, .slice rp rn rc] 26 (v9.setCell ⟨bx, 3, none⟩ (.slice qr rn dr)) ∧ Below bx wd (v9.setCell ⟨bx, 3, none⟩ (.slice qr rn dr)) from ⟨hS.1.step' ((Below.refl _ _).setCell (p := ⟨bx, 3, none⟩) HZX.out _), hS.2.setCell (p := ⟨bx, 3, none⟩) (Nat.le_refl _) _⟩)
        clear hS
        go_simp
        clear kx fx
        generalize (v9.setCell ⟨bx, 3, none⟩ (.slice qr rn dr)) = v11 at HX HOA HEA HNX HNQ ⊢
        clear HNQ
        refine hK.out _ _ (HNX.out) (fun hS => ?_)
        clear hK K
        try simp only [List.setIfInBounds_toArray, List.set_cons_zero, List.set_cons_succ]
        refine wpAnyH_done (by kernel_rfl) ?_ _
        go_wp2
        go_meet
        case rel => exact ⟨ql, dl, qr, dr, HX.out, TwoOwn.of HOA.out HEA.out (Nat.succ_le_of_lt HBL.out) (Nat.succ_le_of_lt HBL.out) HP.out.l.1 HP.out.r.1, hS.1, Below.trans (HWD.out.mono HBK.out) hS.2⟩
      refine AllReadyH.cons (o := _) rfl (fun K hK => ?_) AllReadyH.nil
      obtain ⟨v4, hv4⟩ : ∃ V, wd.alloc (.cells #[] 104) = V := ⟨_, rfl⟩
      have hb : Below wd.heap.size wd v4 := by rw [← hv4]; exact (Below.refl _ _).alloc (Nat.le_refl _) _
      have HE : Hid (OwnRows cellsE 3 104 v4 wd.heap.size (.slice (some ⟨wd.heap.size, 0, none⟩) 0 0) []) := hid (by rw [← hv4]; exact World.ownsRow_lit wd #[] 0 hB.out.size (by decide) rfl)
      have HNX := hid (show Boxed1 w #[.slice lp ln lc, .int .i64 p.reserve, .slice tp tn tc, .slice rp rn rc] 26 v4 ∧ Below bx wd v4 from ⟨hS.1.step hb, hS.2.trans (hb.mono (Nat.le_of_lt (Nat.lt_of_lt_of_le HBL.out hB.out.size)))⟩)
      replace hB := hid (hB.out.trans (hb.mono hB.out.size))
      clear hb hS
      go_simp
      clear hv4
      refine hK.out _ _ (HNX.out) (fun hS => ?_)
      clear hK K
      try simp only [List.setIfInBounds_toArray, List.set_cons_zero, List.set_cons_succ]
      refine wpAnyH_ready (rs := [0]) (by kernel_rfl) (by simp) ?_
      refine AllReadyH.cons (o := _) rfl (fun K hK => ?_) AllReadyH.nil
      obtain ⟨v0, hv0⟩ : ∃ V, v4.alloc (.cells #[] 55) = V := ⟨_, rfl⟩
      have hb : Below v4.heap.size v4 v0 := by rw [← hv0]; exact (Below.refl _ _).alloc (Nat.le_refl _) _
      have HO : Hid (OwnRows cellsR 2 55 v0 wd.heap.size (.slice (some ⟨v4.heap.size, 0, none⟩) 0 0) []) := hid (by rw [← hv0]; exact World.ownsRow_lit v4 #[] 0 hB.out.size (by decide) rfl)
      replace HE := hid (HE.out.below hb)
      have HNX := hid (show Boxed1 w #[.slice lp ln lc, .int .i64 p.reserve, .slice tp tn tc, .slice rp rn rc] 26 v0 ∧ Below bx wd v0 from ⟨hS.1.step hb, hS.2.trans (hb.mono (Nat.le_of_lt (Nat.lt_of_lt_of_le HBL.out hB.out.size)))⟩)
      replace hB := hid (hB.out.trans (hb.mono hB.out.size))
      clear hb hS
      go_simp
      clear hv0
      refine hK.out _ _ (HNX.out) (fun hS => ?_)
      clear hK K
      try simp only [List.setIfInBounds_toArray, List.set_cons_zero]
      refine wpAnyH_ready (rs := [3]) (by kernel_rfl) (by simp) ?_
      refine AllReadyH.cons (o := _) rfl (fun K hK => ?_) AllReadyH.nil
      refine step_append_rows cellsR_len (by decide) cellsR_one 22 55 _ 16 (by decide) Try.info55 rfl Try.und22 (by rfl) (.tmp 30) (.tmp 32) (by rfl) wd.heap.size _ [] lp ln lc p.losses HO.out (by rfl) (by rfl) (HP.out.l.below hS.1.below) (by simp) (by omega) hB.out.size ?_
      intro a3 v3 ho hb hkk
      rw [List.nil_append] at ho
      obtain ⟨ql, dl, rfl, _⟩ := ho.slice cellsR_len
      rw [← HP.out.l.1] at ho ⊢
      replace HE := hid (HE.out.block (fun g hg => hkk g (HE.out.lt g hg).2 (OwnRows.apart HE.out HO.out (by decide) g hg)))
      have HOA := hid ho
      have HNX := hid (show Boxed1 w #[.slice lp ln lc, .int .i64 p.reserve, .slice tp tn tc, .slice rp rn rc] 26 v3 ∧ Below bx wd v3 from ⟨hS.1.step' (hb.mono HLO.out), hS.2.trans (hb.mono (Nat.le_of_lt HBL.out))⟩)
      replace hB := hid (hB.out.trans hb)
      clear hb hkk ho HO hS
      refine hK.out _ _ (HNX.out) (fun hS => ?_)
      clear hK K
      try simp only [Act.put, List.getElem_toArray, List.getElem_cons_zero, List.getElem_cons_succ, List.setIfInBounds_toArray, List.set_cons_zero, List.set_cons_succ]
      refine tkH (i := 8) (v := ?_) (fun V hV => ?_) ?_
      rotate_left
      · go_simp
        try with_reducible rfl
      try simp only [Act.put, List.getElem_toArray, List.getElem_cons_zero, List.getElem_cons_succ, List.setIfInBounds_toArray, List.set_cons_zero, List.set_cons_succ]
      refine wpAnyH_ready (rs := [7]) (by kernel_rfl) (by simp) ?_
      refine AllReadyH.cons (o := _) rfl (fun K hK => ?_) AllReadyH.nil
      refine step_append_rows cellsE_len (by decide) cellsE_one 24 104 _ 24 (by decide) Try.info104 rfl Try.und24 (by rfl) (.tmp 34) (.tmp 36) (by rfl) wd.heap.size _ [] rp rn rc p.reps HE.out (by rfl) (by rfl) (HP.out.r.below hS.1.below) (by simp) (by omega) hB.out.size ?_
      intro a7 v7 ho hb hkk
      rw [List.nil_append] at ho
      obtain ⟨qr, dr, rfl, _⟩ := ho.slice cellsE_len
      rw [← HP.out.r.1] at ho ⊢
      replace HOA := hid (HOA.out.block (fun g hg => hkk g (HOA.out.lt g hg).2 (OwnRows.apart HOA.out HE.out (by decide) g hg)))
      have HEA := hid ho
      have HNX := hid (show Boxed1 w #[.slice lp ln lc, .int .i64 p.reserve, .slice tp tn tc, .slice rp rn rc] 26 v7 ∧ Below bx wd v7 from ⟨hS.1.step' (hb.mono HLO.out), hS.2.trans (hb.mono (Nat.le_of_lt HBL.out))⟩)
      replace hB := hid (hB.out.trans hb)
      clear hb hkk ho HE hS
      refine hK.out _ _ (HNX.out) (fun hS => ?_)
      clear hK K
      try simp only [Act.put, List.getElem_toArray, List.getElem_cons_zero, List.getElem_cons_succ, List.setIfInBounds_toArray, List.set_cons_zero, List.set_cons_succ]
      refine wpAnyH_ready (rs := [9]) (by kernel_rfl) (by simp) ?_
      refine AllReadyH.cons (o := _) rfl (fun K hK => ?_) AllReadyH.nil
      replace HX := hid (HX.out.keep hB.out HBL.out)
      have kx := (HX.out.2 0 (.slice lp ln lc) rfl).1; have fx := (HX.out.2 0 (.slice lp ln lc) rfl).2
      have HNQ := hid ((Near.refl (fun i => i = bx) v7).setCell (p := ⟨bx, 0, none⟩) (fun _ => rfl) (.slice ql ln dl))
      replace HX := hid (HX.out.put (j := 0) (.slice ql ln dl))
      replace HOA := hid (HOA.out.near HNQ.out (fun k h1 h2 => by have := HBL.out; omega))
      replace HEA := hid (HEA.out.near HNQ.out (fun k h1 h2 => by have := HBL.out; omega))
      have HNX := hid (show Boxed1 w #[.slice lp ln lc, .int .i64 p.reserve, .slice tp tn tc, .slice rp rn rc] 26 (v7.setCell ⟨bx, 0, none⟩ (.slice ql ln dl)) ∧ Below bx wd (v7.setCell ⟨bx, 0, none⟩ (.slice ql ln dl)) from ⟨hS.1.step' ((Below.refl _ _).setCell (p := ⟨bx, 0, none⟩) HZX.out _), hS.2.setCell (p := ⟨bx, 0, none⟩) (Nat.le_refl _) _⟩)
      clear hS
      go_simp
      clear kx fx
      generalize (v7.setCell ⟨bx, 0, none⟩ (.slice ql ln dl)) = v9 at HX HOA HEA HNX HNQ ⊢
      clear HNQ
      refine hK.out _ _ (HNX.out) (fun hS => ?_)
      clear hK K
      try simp only [List.setIfInBounds_toArray, List.set_cons_zero, List.set_cons_succ]
      refine tkH (i := 10) (v := ?_) (fun V hV => ?_) ?_
      rotate_left
      · go_simp
        try with_reducible rfl
      try simp only [Act.put, List.getElem_toArray, List.getElem_cons_zero, List.getElem_cons_succ, List.setIfInBounds_toArray, List.set_cons_zero, List.set_cons_succ]
      refine wpAnyH_ready (rs := [11]) (by kernel_rfl) (by simp) ?_
      refine AllReadyH.cons (o := _) rfl (fun K hK => ?_) AllReadyH.nil
      have kx := (HX.out.2 3 (.slice rp rn rc) rfl).1; have fx := (HX.out.2 3 (.slice rp rn rc) rfl).2
      have HNQ := hid ((Near.refl (fun i => i = bx) v9).setCell (p := ⟨bx, 3, none⟩) (fun _ => rfl) (.slice qr rn dr))
      replace HX := hid (HX.out.put (j := 3) (.slice qr rn dr))
      replace HOA := hid (HOA.out.near HNQ.out (fun k h1 h2 => by have := HBL.out; omega))
      replace HEA := hid (HEA.out.near HNQ.out (fun k h1 h2 => by have := HBL.out; omega))
      have HNX := hid (show Boxed1 w #[.slice lp ln lc, .int .i64 p.reserve, .slice tp tn tc, .slice rp rn rc] 26 (v9.setCell ⟨bx, 3, none⟩ (.slice qr rn dr)) ∧ Below bx wd (v9.setCell ⟨bx, 3, none⟩ (.slice qr rn dr)) from ⟨hS.1.step' ((Below.refl _ _).setCell (p := ⟨bx, 3, none⟩) HZX.out _), hS.2.setCell (p := ⟨bx, 3, none⟩) (Nat.le_refl _) _⟩)
      clear hS
      go_simp
      clear kx fx
      generalize (v9.setCell ⟨bx, 3, none⟩ (.slice qr rn dr)) = v11 at HX HOA HEA HNX HNQ ⊢
      clear HNQ
      refine hK.out _ _ (HNX.out) (fun hS => ?_)
      clear hK K
      try simp only [List.setIfInBounds_toArray, List.set_cons_zero, List.set_cons_succ]
      refine wpAnyH_done (by kernel_rfl) ?_ _
      go_wp2
      go_meet
      case rel => exact ⟨ql, dl, qr, dr, HX.out, TwoOwn.of HOA.out HEA.out (Nat.succ_le_of_lt HBL.out) (Nat.succ_le_of_lt HBL.out) HP.out.l.1 HP.out.r.1, hS.1, Below.trans (HWD.out.mono HBK.out) hS.2⟩
    case rest =>
      obtain ⟨ql, dl, qr, dr, hx, h2, hbx, hbw⟩ := hcut
      replace HX := hid hx; have HO2 := hid h2; have H3 := hid hbx
      clear hx h2 hbx hbw
      obtain ⟨w3, hw9⟩ : ∃ V, V = wc := ⟨_, rfl⟩
      subst hw9
      have hcy : IntKind.i64.wrap (Y : Int) = (Y : Int) := IntWalk.i64_in _ (by omega)
      have hcv : IntKind.i64.wrap (V0 : Int) = (V0 : Int) := IntWalk.i64_in _ (by omega)
      obtain ⟨lw, hlw⟩ : ∃ v, (Y : Int) % 3 = v := ⟨_, rfl⟩
      obtain ⟨hh, hhh⟩ : ∃ v, (Y : Int) / 4 % 3 = v := ⟨_, rfl⟩
      have hlb : 0 ≤ lw ∧ lw ≤ 2 := by omega
      have hhb : 0 ≤ hh ∧ hh ≤ 2 := by omega
      go_upto_region 6 with fail
      rw [hlw, hhh]
      refine wp_region_held_drew (S := fun V => Boxed1 w #[.slice lp ln lc, .int .i64 p.reserve, .slice tp tn tc, .slice rp rn rc] 26 V ∧ BoxIs bx #[.slice ql ln dl, .int .i64 p.reserve, .slice tp tn tc, .slice qr rn dr] V ∧ TwoOwn (bx + 1) p.losses p.reps ln rn ql qr V) (by kernel_rfl) (⟨H3.out.drew, HX.out.below (Below.refl _ _).drew, HO2.out.below (Below.refl _ _).drew⟩) (fun hS => ?_)
      simp only [List.size_toArray, List.length_cons, List.length_nil, Nat.reduceAdd, Array.replicate_succ, Array.replicate_zero, List.push_toArray, List.nil_append, List.cons_append]
      refine tkH (i := 0) (v := ?_) (fun V hV => ?_) ?_
      rotate_left
      · go_simp
        try with_reducible rfl
      try simp only [Act.put, List.getElem_toArray, List.getElem_cons_zero, List.setIfInBounds_toArray, List.set_cons_zero, List.set_cons_succ]
      refine tkH (i := 1) (v := ?_) (fun V hV => ?_) ?_
      rotate_left
      · have x0 := (hV.2.1.2 0 (.slice ql ln dl) rfl).1; go_simp
        try with_reducible rfl
      try simp only [Act.put, List.getElem_toArray, List.getElem_cons_zero, List.getElem_cons_succ, List.setIfInBounds_toArray, List.set_cons_zero, List.set_cons_succ]
      refine tkH (i := 2) (v := ?_) (fun V hV => ?_) ?_
      rotate_left
      · go_simp
        try with_reducible rfl
      try simp only [Act.put, List.getElem_toArray, List.getElem_cons_zero, List.getElem_cons_succ, List.setIfInBounds_toArray, List.set_cons_zero, List.set_cons_succ]
      refine tkH (i := 3) (v := ?_) (fun V hV => ?_) ?_
      rotate_left
      · go_simp
        try with_reducible rfl
      try simp only [Act.put, List.getElem_toArray, List.getElem_cons_zero, List.getElem_cons_succ, List.setIfInBounds_toArray, List.set_cons_zero, List.set_cons_succ]
      refine tkH (i := 4) (v := ?_) (fun V hV => ?_) ?_
      rotate_left
      · have x3 := (hV.2.1.2 3 (.slice qr rn dr) rfl).1; go_simp
        try with_reducible rfl
      try simp only [Act.put, List.getElem_toArray, List.getElem_cons_zero, List.getElem_cons_succ, List.setIfInBounds_toArray, List.set_cons_zero, List.set_cons_succ]
      refine tkH (i := 5) (v := ?_) (fun V hV => ?_) ?_
      rotate_left
      · go_simp
        try with_reducible rfl
      try simp only [Act.put, List.getElem_toArray, List.getElem_cons_zero, List.getElem_cons_succ, List.setIfInBounds_toArray, List.set_cons_zero, List.set_cons_succ]
      refine tkH (i := 6) (v := ?_) (fun V hV => ?_) ?_
      rotate_left
      · go_simp
        try with_reducible rfl
      try simp only [Act.put, List.getElem_toArray, List.getElem_cons_zero, List.getElem_cons_succ, List.setIfInBounds_toArray, List.set_cons_zero, List.set_cons_succ]
      refine tkH (i := 7) (v := ?_) (fun V hV => ?_) ?_
      rotate_left
      · go_simp
        try with_reducible rfl
      try simp only [Act.put, List.getElem_toArray, List.getElem_cons_zero, List.getElem_cons_succ, List.setIfInBounds_toArray, List.set_cons_zero, List.set_cons_succ]
      refine wpAnyH_done (by kernel_rfl) ?_ _
      obtain ⟨w4, hwd⟩ : ∃ V, w3.drew = V := ⟨_, rfl⟩
      rw [hwd] at hS ⊢
      have H4 := hid hS.1; replace HX := hid hS.2.1; replace HO2 := hid hS.2.2
      clear hS hwd
      obtain ⟨b1, hb1⟩ : ∃ b : Bool, decide ((V0 : Int) % 2 = 0 ∧ 0 < ln) = b := ⟨_, rfl⟩
      have Hb1 := hid hb1
      clear hb1
      go_upto_region 7 with fail
      go_cut [59] from 25 (fun c wr => c = .bool b1 ∧ w4 = wr)
      case first => as_aux_lemma =>
        rcases (show (V0 : Int) % 2 = 0 ∨ (V0 : Int) % 2 = 1 by omega) with hm2 | hm2
        · skip
          by_cases hl0 : ln = 0
          · have hl1 : ¬ (0 : Int) < ln := by omega
            have hl2 : ¬ 0 < ln := by omega
            clear hl0
            go_wp2_with fail
            go_meet
            case rel => exact ⟨by rw [← Hb1.out, decide_eq_false (by omega)], rfl⟩
          · have hl1 : (0 : Int) < ln := by omega
            have hl2 : 0 < ln := by omega
            clear hl0
            go_wp2_with fail
            go_meet
            case rel => exact ⟨by rw [← Hb1.out, decide_eq_true (by omega)], rfl⟩
        · skip
          go_wp2_with fail
          go_meet
          case rel => exact ⟨by rw [← Hb1.out, decide_eq_false (by omega)], rfl⟩
      case rest =>
        obtain ⟨rfl, hwq⟩ := hcut
        subst hwq
        go_upto_if 59 with fail
        go_cut [14] from 25 (fun _ wr => ∃ x, WiderP p x ∧ ((V0 : Int) % 2 = 1 → x = p) ∧ BoxIs bx #[.slice ql ln dl, .int .i64 p.reserve, .slice tp tn tc, .slice qr rn dr] wr ∧ TwoOwn (bx + 1) x.losses x.reps ln rn ql qr wr ∧ Boxed1 w #[.slice lp ln lc, .int .i64 p.reserve, .slice tp tn tc, .slice rp rn rc] 26 wr)
        case first => as_aux_lemma =>
          cases b1
          · skip
            go_wp2_with fail
            go_meet
            case rel => exact ⟨p, WiderP.rfl' p, fun _ => rfl, HX.out, HO2.out, H4.out⟩
          · have hq := of_decide_eq_true Hb1.out
            have hm2 := hq.1
            have hl2 : 0 < ln := hq.2
            have hl1 : (0 : Int) < ln := by omega
            clear hq
            obtain ⟨j, hj⟩ : ∃ j : Nat, (V0 : Int) / 2 % (ln : Int) = (j : Int) := ⟨((V0 : Int) / 2 % (ln : Int)).toNat, by have := Int.emod_nonneg ((V0 : Int) / 2) (show (ln : Int) ≠ 0 by omega); omega⟩
            have hjl : j < ln := by have := Int.emod_lt_of_pos ((V0 : Int) / 2) hl1; omega
            have hl3 : ¬ (ln : Int) = 0 := by omega
            have hl4 : ¬ ln = 0 := by omega
            have hq2 : IntKind.i64.wrap ((V0 : Int) / 2) = (V0 : Int) / 2 := IntWalk.i64_in _ (by omega)
            have hq3 : ((V0 : Int) / 2).tmod (ln : Int) = (j : Int) := by rw [Int.tmod_eq_emod_of_nonneg (by omega)]; exact hj
            obtain ⟨gl, hgl, hgb, hgx, hgn⟩ := HO2.out.2.2.1 hl2
            subst hgl
            have HGX := hid hgx; have HGB := hid hgb
            clear hgx hgn
            obtain ⟨rj, hrj⟩ : ∃ r, p.losses[j]? = some r := ⟨_, List.getElem?_eq_getElem (by rw [← HP.out.l.1]; exact hjl)⟩
            have hrb := HOK.out.loss rj (List.mem_of_getElem? hrj)
            have HRJ := hid hrj
            clear hrj
            go_upto_region 8 with fail
            refine wp_region_held_drew (S := fun V => Boxed1 w #[.slice lp ln lc, .int .i64 p.reserve, .slice tp tn tc, .slice rp rn rc] 26 V ∧ Below w4.heap.size w4 V ∧ BoxIs bx #[.slice (some ⟨gl, 0, none⟩) ln dl, .int .i64 p.reserve, .slice tp tn tc, .slice qr rn dr] V) (by kernel_rfl) (⟨H4.out.drew, (Below.refl _ _).drew, HX.out.below (Below.refl _ _).drew⟩) (fun hS => ?_)
            simp only [List.size_toArray, List.length_cons, List.length_nil, Nat.reduceAdd, Array.replicate_succ, Array.replicate_zero, List.push_toArray, List.nil_append, List.cons_append]
            refine tkH (i := 0) (v := ?_) (fun V hV => ?_) ?_
            rotate_left
            · go_simp
              try with_reducible rfl
            try simp only [Act.put, List.getElem_toArray, List.getElem_cons_zero, List.setIfInBounds_toArray, List.set_cons_zero, List.set_cons_succ]
            refine tkH (i := 1) (v := ?_) (fun V hV => ?_) ?_
            rotate_left
            · have x0 := (hV.2.2.2 0 (.slice (some ⟨gl, 0, none⟩) ln dl) rfl).1; go_simp
              try with_reducible rfl
            try simp only [Act.put, List.getElem_toArray, List.getElem_cons_zero, List.getElem_cons_succ, List.setIfInBounds_toArray, List.set_cons_zero, List.set_cons_succ]
            refine tkH (i := 2) (v := ?_) (fun V hV => ?_) ?_
            rotate_left
            · go_simp
              try with_reducible rfl
            try simp only [Act.put, List.getElem_toArray, List.getElem_cons_zero, List.getElem_cons_succ, List.setIfInBounds_toArray, List.set_cons_zero, List.set_cons_succ]
            refine tkH (i := 3) (v := ?_) (fun V hV => ?_) ?_
            rotate_left
            · go_simp
              try with_reducible rfl
            try simp only [Act.put, List.getElem_toArray, List.getElem_cons_zero, List.getElem_cons_succ, List.setIfInBounds_toArray, List.set_cons_zero, List.set_cons_succ]
            refine tkH (i := 4) (v := ?_) (fun V hV => ?_) ?_
            rotate_left
            · go_simp
              try with_reducible rfl
            try simp only [Act.put, List.getElem_toArray, List.getElem_cons_zero, List.getElem_cons_succ, List.setIfInBounds_toArray, List.set_cons_zero, List.set_cons_succ]
            refine tkH (i := 5) (v := ?_) (fun V hV => ?_) ?_
            rotate_left
            · go_simp
              try with_reducible rfl
            try simp only [Act.put, List.getElem_toArray, List.getElem_cons_zero, List.getElem_cons_succ, List.setIfInBounds_toArray, List.set_cons_zero, List.set_cons_succ]
            refine tkH (i := 6) (v := ?_) (fun V hV => ?_) ?_
            rotate_left
            · go_simp
              try with_reducible rfl
            try simp only [Act.put, List.getElem_toArray, List.getElem_cons_zero, List.getElem_cons_succ, List.setIfInBounds_toArray, List.set_cons_zero, List.set_cons_succ]
            refine tkH (i := 7) (v := ?_) (fun V hV => ?_) ?_
            rotate_left
            · go_simp
              try with_reducible rfl
            try simp only [Act.put, List.getElem_toArray, List.getElem_cons_zero, List.getElem_cons_succ, List.setIfInBounds_toArray, List.set_cons_zero, List.set_cons_succ]
            refine tkH (i := 8) (v := ?_) (fun V hV => ?_) ?_
            rotate_left
            · go_simp
              try with_reducible rfl
            try simp only [Act.put, List.getElem_toArray, List.getElem_cons_zero, List.getElem_cons_succ, List.setIfInBounds_toArray, List.set_cons_zero, List.set_cons_succ]
            refine wpAnyH_done (by kernel_rfl) ?_ _
            have H5 := hid hS.1; replace HX := hid hS.2.2; replace HO2 := hid (HO2.out.below hS.2.1)
            clear hS
            go_upto_region 9 with fail
            obtain ⟨u0, hu0⟩ : ∃ V, w4.drew.drew = V := ⟨_, rfl⟩
            have HW4 := hid H5.out.drew; replace HX := hid (HX.out.below (Below.refl _ _).drew); replace HO2 := hid (HO2.out.below (Below.refl _ _).drew)
            rw [hu0] at HW4 HX HO2
            obtain ⟨g9, e9, hgb, hgx, hgn⟩ := HO2.out.2.2.1 hl2; cases e9; clear hgn; have HG1 : Hid (w.heap.size + 1 ≤ gl ∧ gl ≠ bx) := hid ⟨by have := HZX.out; omega, by omega⟩; have q0 := hgx.2 (j * 2) (.int .i64 rj.lo) (by simpa using flat_get cellsR_len _ j 0 rj (.int .i64 rj.lo) HRJ.out rfl); have q1 := hgx.2 (j * 2 + 1) (.int .i64 rj.hi) (by simpa using flat_get cellsR_len _ j 1 rj (.int .i64 rj.hi) HRJ.out rfl); have HCU : Hid (u0.cell? ⟨gl, j * 2, none⟩ = some (.int .i64 rj.lo) ∧ u0.cell? ⟨gl, j * 2 + 1, none⟩ = some (.int .i64 rj.hi)) := hid ⟨q0.1, q1.1⟩; have HFU : Hid (u0.frozen? ⟨gl, j * 2, none⟩ = false ∧ u0.frozen? ⟨gl, j * 2 + 1, none⟩ = false) := hid ⟨q0.2, q1.2⟩; clear q0 q1 hgx hgb
            have HWR : Hid (IntKind.i64.wrap (rj.lo - lw) = rj.lo - lw ∧ IntKind.i64.wrap (rj.hi + hh) = rj.hi + hh) := hid ⟨IntWalk.i64_in _ (by omega), IntWalk.i64_in _ (by omega)⟩
            refine wp_region_listed (S := fun l V => (Boxed1 w #[.slice lp ln lc, .int .i64 p.reserve, .slice tp tn tc, .slice rp rn rc] 26 V ∧ BoxIs bx #[.slice (some ⟨gl, 0, none⟩) ln dl, .int .i64 p.reserve, .slice tp tn tc, .slice qr rn dr] V) ∧ (l.getD 18 true = false → V.cell? ⟨gl, j * 2, none⟩ = some (.int .i64 rj.lo) ∧ V.cell? ⟨gl, j * 2 + 1, none⟩ = some (.int .i64 rj.hi))) (by kernel_rfl) (by rw [hu0]; exact ⟨⟨HW4.out, HX.out⟩, fun _ => HCU.out⟩) (fun hS => ?_)
            simp only [List.size_toArray, List.length_cons, List.length_nil, Nat.reduceAdd, Array.replicate_succ, Array.replicate_zero, List.push_toArray, List.nil_append, List.cons_append]
            rw [hu0] at hS ⊢
            clear hu0
            refine anyL_take [] (i := 0) (v := ?_) rfl (by kernel_rfl) (by kernel_rfl) (by kernel_rfl) (fun _ _ _ h => h) (by kernel_rfl) (by kernel_rfl) (fun _ _ => and_congr Iff.rfl (imp_congr (getD_set_iff (by decide)) Iff.rfl)) (Or.inl ⟨by rfl, fun V hV => ?_⟩) (by assumption) ?_
            rotate_left
            · go_simp
              try with_reducible rfl
            try simp only [Act.put, List.getElem_toArray, List.getElem_cons_zero, List.setIfInBounds_toArray, List.set_cons_zero, List.set_cons_succ]
            refine anyL_take [] (i := 1) (v := ?_) rfl (by kernel_rfl) (by kernel_rfl) (by kernel_rfl) (fun _ _ _ h => h) (by kernel_rfl) (by kernel_rfl) (fun _ _ => and_congr Iff.rfl (imp_congr (getD_set_iff (by decide)) Iff.rfl)) (Or.inl ⟨by rfl, fun V hV => ?_⟩) (by assumption) ?_
            rotate_left
            · go_simp
              try with_reducible rfl
            try simp only [Act.put, List.getElem_toArray, List.getElem_cons_zero, List.getElem_cons_succ, List.setIfInBounds_toArray, List.set_cons_zero, List.set_cons_succ]
            refine anyL_take [] (i := 2) (v := ?_) rfl (by kernel_rfl) (by kernel_rfl) (by kernel_rfl) (fun _ _ _ h => h) (by kernel_rfl) (by kernel_rfl) (fun _ _ => and_congr Iff.rfl (imp_congr (getD_set_iff (by decide)) Iff.rfl)) (Or.inl ⟨by rfl, fun V hV => ?_⟩) (by assumption) ?_
            rotate_left
            · go_simp
              try with_reducible rfl
            try simp only [Act.put, List.getElem_toArray, List.getElem_cons_zero, List.getElem_cons_succ, List.setIfInBounds_toArray, List.set_cons_zero, List.set_cons_succ]
            refine anyL_take [] (i := 3) (v := ?_) rfl (by kernel_rfl) (by kernel_rfl) (by kernel_rfl) (fun _ _ _ h => h) (by kernel_rfl) (by kernel_rfl) (fun _ _ => and_congr Iff.rfl (imp_congr (getD_set_iff (by decide)) Iff.rfl)) (Or.inl ⟨by rfl, fun V hV => ?_⟩) (by assumption) ?_
            rotate_left
            · go_simp
              try with_reducible rfl
            try simp only [Act.put, List.getElem_toArray, List.getElem_cons_zero, List.getElem_cons_succ, List.setIfInBounds_toArray, List.set_cons_zero, List.set_cons_succ]
            refine anyL_take [] (i := 4) (v := ?_) rfl (by kernel_rfl) (by kernel_rfl) (by kernel_rfl) (fun _ _ _ h => h) (by kernel_rfl) (by kernel_rfl) (fun _ _ => and_congr Iff.rfl (imp_congr (getD_set_iff (by decide)) Iff.rfl)) (Or.inl ⟨by rfl, fun V hV => ?_⟩) (by assumption) ?_
            rotate_left
            · go_simp
              try with_reducible rfl
            try simp only [Act.put, List.getElem_toArray, List.getElem_cons_zero, List.getElem_cons_succ, List.setIfInBounds_toArray, List.set_cons_zero, List.set_cons_succ]
            refine anyL_take [18] (i := 5) (v := ?_) rfl (by kernel_rfl) (by kernel_rfl) (by kernel_rfl) (fun _ _ _ h => h) (by kernel_rfl) (by kernel_rfl) (fun _ _ => and_congr Iff.rfl (imp_congr (getD_set_iff (by decide)) Iff.rfl)) (Or.inl ⟨by rfl, fun V hV => ?_⟩) (by assumption) ?_
            rotate_left
            · obtain ⟨l, hn, hV⟩ := hV; have ⟨c0, c1⟩ := hV.2 (hn 18 (by simp)); go_simp
              try with_reducible rfl
            try simp only [Act.put, List.getElem_toArray, List.getElem_cons_zero, List.getElem_cons_succ, List.setIfInBounds_toArray, List.set_cons_zero, List.set_cons_succ]
            refine anyL_take [] (i := 6) (v := ?_) rfl (by kernel_rfl) (by kernel_rfl) (by kernel_rfl) (fun _ _ _ h => h) (by kernel_rfl) (by kernel_rfl) (fun _ _ => and_congr Iff.rfl (imp_congr (getD_set_iff (by decide)) Iff.rfl)) (Or.inl ⟨by rfl, fun V hV => ?_⟩) (by assumption) ?_
            rotate_left
            · go_simp
              try with_reducible rfl
            try simp only [Act.put, List.getElem_toArray, List.getElem_cons_zero, List.getElem_cons_succ, List.setIfInBounds_toArray, List.set_cons_zero, List.set_cons_succ]
            refine anyL_take [] (i := 7) (v := ?_) rfl (by kernel_rfl) (by kernel_rfl) (by kernel_rfl) (fun _ _ _ h => h) (by kernel_rfl) (by kernel_rfl) (fun _ _ => and_congr Iff.rfl (imp_congr (getD_set_iff (by decide)) Iff.rfl)) (Or.inl ⟨by rfl, fun V hV => ?_⟩) (by assumption) ?_
            rotate_left
            · obtain ⟨l, hn, hV⟩ := hV; have ⟨r1, r2⟩ := HWR.out; go_simp
              try with_reducible rfl
            try simp only [Act.put, List.getElem_toArray, List.getElem_cons_zero, List.getElem_cons_succ, List.setIfInBounds_toArray, List.set_cons_zero, List.set_cons_succ]
            refine anyL_take [] (i := 8) (v := ?_) rfl (by kernel_rfl) (by kernel_rfl) (by kernel_rfl) (fun _ _ _ h => h) (by kernel_rfl) (by kernel_rfl) (fun _ _ => and_congr Iff.rfl (imp_congr (getD_set_iff (by decide)) Iff.rfl)) (Or.inl ⟨by rfl, fun V hV => ?_⟩) (by assumption) ?_
            rotate_left
            · go_simp
              try with_reducible rfl
            try simp only [Act.put, List.getElem_toArray, List.getElem_cons_zero, List.getElem_cons_succ, List.setIfInBounds_toArray, List.set_cons_zero, List.set_cons_succ]
            refine anyL_take [] (i := 9) (v := ?_) rfl (by kernel_rfl) (by kernel_rfl) (by kernel_rfl) (fun _ _ _ h => h) (by kernel_rfl) (by kernel_rfl) (fun _ _ => and_congr Iff.rfl (imp_congr (getD_set_iff (by decide)) Iff.rfl)) (Or.inl ⟨by rfl, fun V hV => ?_⟩) (by assumption) ?_
            rotate_left
            · go_simp
              try with_reducible rfl
            try simp only [Act.put, List.getElem_toArray, List.getElem_cons_zero, List.getElem_cons_succ, List.setIfInBounds_toArray, List.set_cons_zero, List.set_cons_succ]
            refine anyL_take [] (i := 10) (v := ?_) rfl (by kernel_rfl) (by kernel_rfl) (by kernel_rfl) (fun _ _ _ h => h) (by kernel_rfl) (by kernel_rfl) (fun _ _ => and_congr Iff.rfl (imp_congr (getD_set_iff (by decide)) Iff.rfl)) (Or.inl ⟨by rfl, fun V hV => ?_⟩) (by assumption) ?_
            rotate_left
            · go_simp
              try with_reducible rfl
            try simp only [Act.put, List.getElem_toArray, List.getElem_cons_zero, List.getElem_cons_succ, List.setIfInBounds_toArray, List.set_cons_zero, List.set_cons_succ]
            refine anyL_take [] (i := 11) (v := ?_) rfl (by kernel_rfl) (by kernel_rfl) (by kernel_rfl) (fun _ _ _ h => h) (by kernel_rfl) (by kernel_rfl) (fun _ _ => and_congr Iff.rfl (imp_congr (getD_set_iff (by decide)) Iff.rfl)) (Or.inl ⟨by rfl, fun V hV => ?_⟩) (by assumption) ?_
            rotate_left
            · go_simp
              try with_reducible rfl
            try simp only [Act.put, List.getElem_toArray, List.getElem_cons_zero, List.getElem_cons_succ, List.setIfInBounds_toArray, List.set_cons_zero, List.set_cons_succ]
            refine anyL_take [18] (i := 12) (v := ?_) rfl (by kernel_rfl) (by kernel_rfl) (by kernel_rfl) (fun _ _ _ h => h) (by kernel_rfl) (by kernel_rfl) (fun _ _ => and_congr Iff.rfl (imp_congr (getD_set_iff (by decide)) Iff.rfl)) (Or.inl ⟨by rfl, fun V hV => ?_⟩) (by assumption) ?_
            rotate_left
            · obtain ⟨l, hn, hV⟩ := hV; have ⟨c0, c1⟩ := hV.2 (hn 18 (by simp)); go_simp
              try with_reducible rfl
            try simp only [Act.put, List.getElem_toArray, List.getElem_cons_zero, List.getElem_cons_succ, List.setIfInBounds_toArray, List.set_cons_zero, List.set_cons_succ]
            refine anyL_take [] (i := 13) (v := ?_) rfl (by kernel_rfl) (by kernel_rfl) (by kernel_rfl) (fun _ _ _ h => h) (by kernel_rfl) (by kernel_rfl) (fun _ _ => and_congr Iff.rfl (imp_congr (getD_set_iff (by decide)) Iff.rfl)) (Or.inl ⟨by rfl, fun V hV => ?_⟩) (by assumption) ?_
            rotate_left
            · go_simp
              try with_reducible rfl
            try simp only [Act.put, List.getElem_toArray, List.getElem_cons_zero, List.getElem_cons_succ, List.setIfInBounds_toArray, List.set_cons_zero, List.set_cons_succ]
            refine anyL_take [] (i := 14) (v := ?_) rfl (by kernel_rfl) (by kernel_rfl) (by kernel_rfl) (fun _ _ _ h => h) (by kernel_rfl) (by kernel_rfl) (fun _ _ => and_congr Iff.rfl (imp_congr (getD_set_iff (by decide)) Iff.rfl)) (Or.inl ⟨by rfl, fun V hV => ?_⟩) (by assumption) ?_
            rotate_left
            · obtain ⟨l, hn, hV⟩ := hV; have ⟨r1, r2⟩ := HWR.out; go_simp
              try with_reducible rfl
            try simp only [Act.put, List.getElem_toArray, List.getElem_cons_zero, List.getElem_cons_succ, List.setIfInBounds_toArray, List.set_cons_zero, List.set_cons_succ]
            refine anyL_take [] (i := 15) (v := ?_) rfl (by kernel_rfl) (by kernel_rfl) (by kernel_rfl) (fun _ _ _ h => h) (by kernel_rfl) (by kernel_rfl) (fun _ _ => and_congr Iff.rfl (imp_congr (getD_set_iff (by decide)) Iff.rfl)) (Or.inl ⟨by rfl, fun V hV => ?_⟩) (by assumption) ?_
            rotate_left
            · go_simp
              try with_reducible rfl
            try simp only [Act.put, List.getElem_toArray, List.getElem_cons_zero, List.getElem_cons_succ, List.setIfInBounds_toArray, List.set_cons_zero, List.set_cons_succ]
            refine anyL_take [] (i := 16) (v := ?_) rfl (by kernel_rfl) (by kernel_rfl) (by kernel_rfl) (fun _ _ _ h => h) (by kernel_rfl) (by kernel_rfl) (fun _ _ => and_congr Iff.rfl (imp_congr (getD_set_iff (by decide)) Iff.rfl)) (Or.inl ⟨by rfl, fun V hV => ?_⟩) (by assumption) ?_
            rotate_left
            · go_simp
              try with_reducible rfl
            try simp only [Act.put, List.getElem_toArray, List.getElem_cons_zero, List.getElem_cons_succ, List.setIfInBounds_toArray, List.set_cons_zero, List.set_cons_succ]
            refine anyL_take [] (i := 17) (v := ?_) rfl (by kernel_rfl) (by kernel_rfl) (by kernel_rfl) (fun _ _ _ h => h) (by kernel_rfl) (by kernel_rfl) (fun _ _ => and_congr Iff.rfl (imp_congr (getD_set_iff (by decide)) Iff.rfl)) (Or.inl ⟨by rfl, fun V hV => ?_⟩) (by assumption) ?_
            rotate_left
            · go_simp
              try with_reducible rfl
            try simp only [Act.put, List.getElem_toArray, List.getElem_cons_zero, List.getElem_cons_succ, List.setIfInBounds_toArray, List.set_cons_zero, List.set_cons_succ]
            refine anyL_one (i := 18) (o := _) (by kernel_rfl) rfl (fun K hK => ?_)
            have ⟨c0, c1⟩ := HCU.out
            have k0 := HFU.out.1
            have HC2 : Hid ((u0.setCell ⟨gl, j * 2, none⟩ (.int .i64 (if lw < rj.lo then rj.lo - lw else 0))).cell? ⟨gl, j * 2 + 1, none⟩ = some (.int .i64 rj.hi)) := hid (by rw [World.cell?_setCell_other _ _ _ _ (by simp)]; exact c1)
            have HF2 : Hid ((u0.setCell ⟨gl, j * 2, none⟩ (.int .i64 (if lw < rj.lo then rj.lo - lw else 0))).frozen? ⟨gl, j * 2 + 1, none⟩ = false) := hid (by rw [World.frozen?_setCell]; exact HFU.out.2)
            have HSW := hid (hS.1.1.step' (Below.setCell (Below.refl _ _) (p := ⟨gl, j * 2, none⟩) HG1.out.1 (.int .i64 (if lw < rj.lo then rj.lo - lw else 0))))
            have HSX := hid (hS.1.2.other (b' := gl) (k' := j * 2) HG1.out.2.symm (.int .i64 (if lw < rj.lo then rj.lo - lw else 0)))
            clear hS
            go_simp
            clear c1 c0 k0
            obtain ⟨u1, hu1⟩ : ∃ V, (u0.setCell ⟨gl, j * 2, none⟩ (.int .i64 (if lw < rj.lo then rj.lo - lw else 0))) = V := ⟨_, rfl⟩
            rw [hu1] at HC2 HF2 HSW HSX ⊢
            have HU1 := hid hu1
            clear hu1
            refine hK.out _ _ (⟨⟨HSW.out, HSX.out⟩, fun h => absurd h (by decide)⟩) (fun hS => ?_)
            clear hK K
            try simp only [List.setIfInBounds_toArray, List.set_cons_zero, List.set_cons_succ]
            refine anyL_take [] (i := 19) (v := ?_) rfl (by kernel_rfl) (by kernel_rfl) (by kernel_rfl) (fun _ _ _ h => h) (by kernel_rfl) (by kernel_rfl) (fun _ _ => and_congr Iff.rfl (imp_congr (getD_set_iff (by decide)) Iff.rfl)) (Or.inl ⟨by rfl, fun V hV => ?_⟩) (by assumption) ?_
            rotate_left
            · go_simp
              try with_reducible rfl
            try simp only [Act.put, List.getElem_toArray, List.getElem_cons_zero, List.getElem_cons_succ, List.setIfInBounds_toArray, List.set_cons_zero, List.set_cons_succ]
            refine anyL_take [] (i := 20) (v := ?_) rfl (by kernel_rfl) (by kernel_rfl) (by kernel_rfl) (fun _ _ _ h => h) (by kernel_rfl) (by kernel_rfl) (fun _ _ => and_congr Iff.rfl (imp_congr (getD_set_iff (by decide)) Iff.rfl)) (Or.inl ⟨by rfl, fun V hV => ?_⟩) (by assumption) ?_
            rotate_left
            · go_simp
              try with_reducible rfl
            try simp only [Act.put, List.getElem_toArray, List.getElem_cons_zero, List.getElem_cons_succ, List.setIfInBounds_toArray, List.set_cons_zero, List.set_cons_succ]
            refine anyL_one (i := 21) (o := _) (by kernel_rfl) rfl (fun K hK => ?_)
            have c1 := HC2.out
            have k1 := HF2.out
            have HSW := hid (hS.1.1.step' (Below.setCell (Below.refl _ _) (p := ⟨gl, j * 2 + 1, none⟩) HG1.out.1 (.int .i64 (if rj.hi + hh < 1000 then rj.hi + hh else 1000))))
            have HSX := hid (hS.1.2.other (b' := gl) (k' := j * 2 + 1) HG1.out.2.symm (.int .i64 (if rj.hi + hh < 1000 then rj.hi + hh else 1000)))
            clear hS
            go_simp
            clear c1 k1
            obtain ⟨u2, hu2⟩ : ∃ V, (u1.setCell ⟨gl, j * 2 + 1, none⟩ (.int .i64 (if rj.hi + hh < 1000 then rj.hi + hh else 1000))) = V := ⟨_, rfl⟩
            rw [hu2] at HSW HSX ⊢
            rw [← HU1.out] at hu2
            have HU2 := hid hu2
            clear hu2
            refine hK.out _ _ (⟨⟨HSW.out, HSX.out⟩, fun h => absurd h (by decide)⟩) (fun hS => ?_)
            clear hK K
            try simp only [List.setIfInBounds_toArray, List.set_cons_zero, List.set_cons_succ]
            refine anyL_done (by kernel_rfl) ?_ _
            clear hS HU1 HC2 HF2
            have i1 : (if lw < rj.lo then rj.lo - lw else 0) ≤ rj.lo := by split <;> omega
            have i2 : rj.hi ≤ (if rj.hi + hh < 1000 then rj.hi + hh else 1000) := by split <;> omega
            generalize (if lw < rj.lo then rj.lo - lw else 0) = xl at i1 HU2 ⊢
            generalize (if rj.hi + hh < 1000 then rj.hi + hh else 1000) = xh at i2 HU2 ⊢
            have HI4 := hid (And.intro i1 i2)
            clear i1 i2
            go_wp2_with fail
            go_meet
            case rel =>
              refine ⟨_, WiderP.setL (a := ⟨xl, xh⟩) HRJ.out HI4.out.1 HI4.out.2, fun h9 => by omega, HSX.out, ?_, HSW.out⟩
              rw [← HU2.out]; exact two_setR HO2.out hjl ⟨xl, xh⟩
        case rest =>
          obtain ⟨x, hwid, hxp, hx, h2, hw⟩ := hcut
          have HWI := hid hwid; have HXP := hid hxp; replace HX := hid hx; replace HO2 := hid h2; have H5 := hid hw
          clear hwid hxp hx h2 hw
          obtain ⟨w5, hw9⟩ : ∃ V, V = wc := ⟨_, rfl⟩
          subst hw9
          obtain ⟨b2, hb2⟩ : ∃ b : Bool, decide ((V0 : Int) % 2 = 1 ∧ 0 < rn) = b := ⟨_, rfl⟩
          have Hb2 := hid hb2
          clear hb2
          go_upto_region 10 with fail
          go_cut [94] from 25 (fun c wr => c = .bool b2 ∧ w5 = wr)
          case first => as_aux_lemma =>
            rcases (show (V0 : Int) % 2 = 0 ∨ (V0 : Int) % 2 = 1 by omega) with hm2 | hm2
            · skip
              go_wp2_with fail
              go_meet
              case rel => exact ⟨by rw [← Hb2.out, decide_eq_false (by omega)], rfl⟩
            · skip
              by_cases hl0 : rn = 0
              · have hl1 : ¬ (0 : Int) < rn := by omega
                have hl2 : ¬ 0 < rn := by omega
                clear hl0
                go_wp2_with fail
                go_meet
                case rel => exact ⟨by rw [← Hb2.out, decide_eq_false (by omega)], rfl⟩
              · have hl1 : (0 : Int) < rn := by omega
                have hl2 : 0 < rn := by omega
                clear hl0
                go_wp2_with fail
                go_meet
                case rel => exact ⟨by rw [← Hb2.out, decide_eq_true (by omega)], rfl⟩
          case rest =>
            obtain ⟨rfl, hwq⟩ := hcut
            subst hwq
            go_upto_if 94 with fail
            go_cut [15] from 25 (fun _ wr => ∃ x, WiderP p x ∧ True ∧ BoxIs bx #[.slice ql ln dl, .int .i64 p.reserve, .slice tp tn tc, .slice qr rn dr] wr ∧ TwoOwn (bx + 1) x.losses x.reps ln rn ql qr wr ∧ Boxed1 w #[.slice lp ln lc, .int .i64 p.reserve, .slice tp tn tc, .slice rp rn rc] 26 wr)
            case first => as_aux_lemma =>
              cases b2
              · skip
                go_wp2_with fail
                go_meet
                case rel => exact ⟨x, HWI.out, trivial, HX.out, HO2.out, H5.out⟩
              · have hq := of_decide_eq_true Hb2.out
                have hm2 := hq.1
                have hl2 : 0 < rn := hq.2
                have hl1 : (0 : Int) < rn := by omega
                clear hq
                have hxp := HXP.out hm2
                subst hxp
                obtain ⟨j, hj⟩ : ∃ j : Nat, (V0 : Int) / 2 % (rn : Int) = (j : Int) := ⟨((V0 : Int) / 2 % (rn : Int)).toNat, by have := Int.emod_nonneg ((V0 : Int) / 2) (show (rn : Int) ≠ 0 by omega); omega⟩
                have hjl : j < rn := by have := Int.emod_lt_of_pos ((V0 : Int) / 2) hl1; omega
                have hl3 : ¬ (rn : Int) = 0 := by omega
                have hl4 : ¬ rn = 0 := by omega
                have hq2 : IntKind.i64.wrap ((V0 : Int) / 2) = (V0 : Int) / 2 := IntWalk.i64_in _ (by omega)
                have hq3 : ((V0 : Int) / 2).tmod (rn : Int) = (j : Int) := by rw [Int.tmod_eq_emod_of_nonneg (by omega)]; exact hj
                obtain ⟨gr, hgl, hgb, hgx, hgn⟩ := HO2.out.2.2.2 hl2
                subst hgl
                clear hgb hgx hgn
                obtain ⟨rj, hrj⟩ : ∃ r, x.reps[j]? = some r := ⟨_, List.getElem?_eq_getElem (by rw [← HP.out.r.1]; exact hjl)⟩
                have hrb := rep_bd HOK.out (List.mem_of_getElem? hrj)
                have HRJ := hid hrj
                clear hrj
                go_upto_region 11 with fail
                refine wp_region_held_drew (S := fun V => Boxed1 w #[.slice lp ln lc, .int .i64 x.reserve, .slice tp tn tc, .slice rp rn rc] 26 V ∧ Below w5.heap.size w5 V ∧ BoxIs bx #[.slice ql ln dl, .int .i64 x.reserve, .slice tp tn tc, .slice (some ⟨gr, 0, none⟩) rn dr] V) (by kernel_rfl) (⟨H5.out.drew, (Below.refl _ _).drew, HX.out.below (Below.refl _ _).drew⟩) (fun hS => ?_)
                simp only [List.size_toArray, List.length_cons, List.length_nil, Nat.reduceAdd, Array.replicate_succ, Array.replicate_zero, List.push_toArray, List.nil_append, List.cons_append]
                refine tkH (i := 0) (v := ?_) (fun V hV => ?_) ?_
                rotate_left
                · go_simp
                  try with_reducible rfl
                try simp only [Act.put, List.getElem_toArray, List.getElem_cons_zero, List.setIfInBounds_toArray, List.set_cons_zero, List.set_cons_succ]
                refine tkH (i := 1) (v := ?_) (fun V hV => ?_) ?_
                rotate_left
                · have x3 := (hV.2.2.2 3 (.slice (some ⟨gr, 0, none⟩) rn dr) rfl).1; go_simp
                  try with_reducible rfl
                try simp only [Act.put, List.getElem_toArray, List.getElem_cons_zero, List.getElem_cons_succ, List.setIfInBounds_toArray, List.set_cons_zero, List.set_cons_succ]
                refine tkH (i := 2) (v := ?_) (fun V hV => ?_) ?_
                rotate_left
                · go_simp
                  try with_reducible rfl
                try simp only [Act.put, List.getElem_toArray, List.getElem_cons_zero, List.getElem_cons_succ, List.setIfInBounds_toArray, List.set_cons_zero, List.set_cons_succ]
                refine tkH (i := 3) (v := ?_) (fun V hV => ?_) ?_
                rotate_left
                · go_simp
                  try with_reducible rfl
                try simp only [Act.put, List.getElem_toArray, List.getElem_cons_zero, List.getElem_cons_succ, List.setIfInBounds_toArray, List.set_cons_zero, List.set_cons_succ]
                refine tkH (i := 4) (v := ?_) (fun V hV => ?_) ?_
                rotate_left
                · go_simp
                  try with_reducible rfl
                try simp only [Act.put, List.getElem_toArray, List.getElem_cons_zero, List.getElem_cons_succ, List.setIfInBounds_toArray, List.set_cons_zero, List.set_cons_succ]
                refine tkH (i := 5) (v := ?_) (fun V hV => ?_) ?_
                rotate_left
                · go_simp
                  try with_reducible rfl
                try simp only [Act.put, List.getElem_toArray, List.getElem_cons_zero, List.getElem_cons_succ, List.setIfInBounds_toArray, List.set_cons_zero, List.set_cons_succ]
                refine tkH (i := 6) (v := ?_) (fun V hV => ?_) ?_
                rotate_left
                · go_simp
                  try with_reducible rfl
                try simp only [Act.put, List.getElem_toArray, List.getElem_cons_zero, List.getElem_cons_succ, List.setIfInBounds_toArray, List.set_cons_zero, List.set_cons_succ]
                refine tkH (i := 7) (v := ?_) (fun V hV => ?_) ?_
                rotate_left
                · go_simp
                  try with_reducible rfl
                try simp only [Act.put, List.getElem_toArray, List.getElem_cons_zero, List.getElem_cons_succ, List.setIfInBounds_toArray, List.set_cons_zero, List.set_cons_succ]
                refine tkH (i := 8) (v := ?_) (fun V hV => ?_) ?_
                rotate_left
                · go_simp
                  try with_reducible rfl
                try simp only [Act.put, List.getElem_toArray, List.getElem_cons_zero, List.getElem_cons_succ, List.setIfInBounds_toArray, List.set_cons_zero, List.set_cons_succ]
                refine tkH (i := 9) (v := ?_) (fun V hV => ?_) ?_
                rotate_left
                · go_simp
                  try with_reducible rfl
                try simp only [Act.put, List.getElem_toArray, List.getElem_cons_zero, List.getElem_cons_succ, List.setIfInBounds_toArray, List.set_cons_zero, List.set_cons_succ]
                refine wpAnyH_done (by kernel_rfl) ?_ _
                have H6 := hid hS.1; replace HX := hid hS.2.2; replace HO2 := hid (HO2.out.below hS.2.1)
                clear hS
                go_upto_region 12 with fail
                obtain ⟨u0, hu0⟩ : ∃ V, w5.drew.drew = V := ⟨_, rfl⟩
                have HW4 := hid H6.out.drew; replace HX := hid (HX.out.below (Below.refl _ _).drew); replace HO2 := hid (HO2.out.below (Below.refl _ _).drew)
                rw [hu0] at HW4 HX HO2
                obtain ⟨g9, e9, hgb, hgx, hgn⟩ := HO2.out.2.2.2 hl2; cases e9; clear hgn; have HG1 : Hid (w.heap.size + 1 ≤ gr ∧ gr ≠ bx) := hid ⟨by have := HZX.out; omega, by omega⟩; have q0 := hgx.2 (j * 3 + 1) (.int .i64 rj.paid.lo) (by simpa using flat_get cellsE_len _ j 1 rj (.int .i64 rj.paid.lo) HRJ.out rfl); have q1 := hgx.2 (j * 3 + 2) (.int .i64 rj.paid.hi) (by simpa using flat_get cellsE_len _ j 2 rj (.int .i64 rj.paid.hi) HRJ.out rfl); have HCU : Hid (u0.cell? ⟨gr, j * 3 + 1, none⟩ = some (.int .i64 rj.paid.lo) ∧ u0.cell? ⟨gr, j * 3 + 2, none⟩ = some (.int .i64 rj.paid.hi)) := hid ⟨q0.1, q1.1⟩; have HFU : Hid (u0.frozen? ⟨gr, j * 3 + 1, none⟩ = false ∧ u0.frozen? ⟨gr, j * 3 + 2, none⟩ = false) := hid ⟨q0.2, q1.2⟩; clear q0 q1 hgx hgb
                have HWR : Hid (IntKind.i64.wrap (rj.paid.lo - lw) = rj.paid.lo - lw ∧ IntKind.i64.wrap (rj.paid.hi + hh) = rj.paid.hi + hh) := hid ⟨IntWalk.i64_in _ (by omega), IntWalk.i64_in _ (by omega)⟩
                refine wp_region_listed (S := fun l V => (Boxed1 w #[.slice lp ln lc, .int .i64 x.reserve, .slice tp tn tc, .slice rp rn rc] 26 V ∧ BoxIs bx #[.slice ql ln dl, .int .i64 x.reserve, .slice tp tn tc, .slice (some ⟨gr, 0, none⟩) rn dr] V) ∧ (l.getD 18 true = false → V.cell? ⟨gr, j * 3 + 1, none⟩ = some (.int .i64 rj.paid.lo) ∧ V.cell? ⟨gr, j * 3 + 2, none⟩ = some (.int .i64 rj.paid.hi))) (by kernel_rfl) (by rw [hu0]; exact ⟨⟨HW4.out, HX.out⟩, fun _ => HCU.out⟩) (fun hS => ?_)
                simp only [List.size_toArray, List.length_cons, List.length_nil, Nat.reduceAdd, Array.replicate_succ, Array.replicate_zero, List.push_toArray, List.nil_append, List.cons_append]
                rw [hu0] at hS ⊢
                clear hu0
                refine anyL_take [] (i := 0) (v := ?_) rfl (by kernel_rfl) (by kernel_rfl) (by kernel_rfl) (fun _ _ _ h => h) (by kernel_rfl) (by kernel_rfl) (fun _ _ => and_congr Iff.rfl (imp_congr (getD_set_iff (by decide)) Iff.rfl)) (Or.inl ⟨by rfl, fun V hV => ?_⟩) (by assumption) ?_
                rotate_left
                · go_simp
                  try with_reducible rfl
                try simp only [Act.put, List.getElem_toArray, List.getElem_cons_zero, List.setIfInBounds_toArray, List.set_cons_zero, List.set_cons_succ]
                refine anyL_take [] (i := 1) (v := ?_) rfl (by kernel_rfl) (by kernel_rfl) (by kernel_rfl) (fun _ _ _ h => h) (by kernel_rfl) (by kernel_rfl) (fun _ _ => and_congr Iff.rfl (imp_congr (getD_set_iff (by decide)) Iff.rfl)) (Or.inl ⟨by rfl, fun V hV => ?_⟩) (by assumption) ?_
                rotate_left
                · go_simp
                  try with_reducible rfl
                try simp only [Act.put, List.getElem_toArray, List.getElem_cons_zero, List.getElem_cons_succ, List.setIfInBounds_toArray, List.set_cons_zero, List.set_cons_succ]
                refine anyL_take [] (i := 2) (v := ?_) rfl (by kernel_rfl) (by kernel_rfl) (by kernel_rfl) (fun _ _ _ h => h) (by kernel_rfl) (by kernel_rfl) (fun _ _ => and_congr Iff.rfl (imp_congr (getD_set_iff (by decide)) Iff.rfl)) (Or.inl ⟨by rfl, fun V hV => ?_⟩) (by assumption) ?_
                rotate_left
                · go_simp
                  try with_reducible rfl
                try simp only [Act.put, List.getElem_toArray, List.getElem_cons_zero, List.getElem_cons_succ, List.setIfInBounds_toArray, List.set_cons_zero, List.set_cons_succ]
                refine anyL_take [] (i := 3) (v := ?_) rfl (by kernel_rfl) (by kernel_rfl) (by kernel_rfl) (fun _ _ _ h => h) (by kernel_rfl) (by kernel_rfl) (fun _ _ => and_congr Iff.rfl (imp_congr (getD_set_iff (by decide)) Iff.rfl)) (Or.inl ⟨by rfl, fun V hV => ?_⟩) (by assumption) ?_
                rotate_left
                · go_simp
                  try with_reducible rfl
                try simp only [Act.put, List.getElem_toArray, List.getElem_cons_zero, List.getElem_cons_succ, List.setIfInBounds_toArray, List.set_cons_zero, List.set_cons_succ]
                refine anyL_take [] (i := 4) (v := ?_) rfl (by kernel_rfl) (by kernel_rfl) (by kernel_rfl) (fun _ _ _ h => h) (by kernel_rfl) (by kernel_rfl) (fun _ _ => and_congr Iff.rfl (imp_congr (getD_set_iff (by decide)) Iff.rfl)) (Or.inl ⟨by rfl, fun V hV => ?_⟩) (by assumption) ?_
                rotate_left
                · go_simp
                  try with_reducible rfl
                try simp only [Act.put, List.getElem_toArray, List.getElem_cons_zero, List.getElem_cons_succ, List.setIfInBounds_toArray, List.set_cons_zero, List.set_cons_succ]
                refine anyL_take [18] (i := 5) (v := ?_) rfl (by kernel_rfl) (by kernel_rfl) (by kernel_rfl) (fun _ _ _ h => h) (by kernel_rfl) (by kernel_rfl) (fun _ _ => and_congr Iff.rfl (imp_congr (getD_set_iff (by decide)) Iff.rfl)) (Or.inl ⟨by rfl, fun V hV => ?_⟩) (by assumption) ?_
                rotate_left
                · obtain ⟨l, hn, hV⟩ := hV; have ⟨c0, c1⟩ := hV.2 (hn 18 (by simp)); go_simp
                  try with_reducible rfl
                try simp only [Act.put, List.getElem_toArray, List.getElem_cons_zero, List.getElem_cons_succ, List.setIfInBounds_toArray, List.set_cons_zero, List.set_cons_succ]
                refine anyL_take [] (i := 6) (v := ?_) rfl (by kernel_rfl) (by kernel_rfl) (by kernel_rfl) (fun _ _ _ h => h) (by kernel_rfl) (by kernel_rfl) (fun _ _ => and_congr Iff.rfl (imp_congr (getD_set_iff (by decide)) Iff.rfl)) (Or.inl ⟨by rfl, fun V hV => ?_⟩) (by assumption) ?_
                rotate_left
                · go_simp
                  try with_reducible rfl
                try simp only [Act.put, List.getElem_toArray, List.getElem_cons_zero, List.getElem_cons_succ, List.setIfInBounds_toArray, List.set_cons_zero, List.set_cons_succ]
                refine anyL_take [] (i := 7) (v := ?_) rfl (by kernel_rfl) (by kernel_rfl) (by kernel_rfl) (fun _ _ _ h => h) (by kernel_rfl) (by kernel_rfl) (fun _ _ => and_congr Iff.rfl (imp_congr (getD_set_iff (by decide)) Iff.rfl)) (Or.inl ⟨by rfl, fun V hV => ?_⟩) (by assumption) ?_
                rotate_left
                · obtain ⟨l, hn, hV⟩ := hV; have ⟨r1, r2⟩ := HWR.out; go_simp
                  try with_reducible rfl
                try simp only [Act.put, List.getElem_toArray, List.getElem_cons_zero, List.getElem_cons_succ, List.setIfInBounds_toArray, List.set_cons_zero, List.set_cons_succ]
                refine anyL_take [] (i := 8) (v := ?_) rfl (by kernel_rfl) (by kernel_rfl) (by kernel_rfl) (fun _ _ _ h => h) (by kernel_rfl) (by kernel_rfl) (fun _ _ => and_congr Iff.rfl (imp_congr (getD_set_iff (by decide)) Iff.rfl)) (Or.inl ⟨by rfl, fun V hV => ?_⟩) (by assumption) ?_
                rotate_left
                · go_simp
                  try with_reducible rfl
                try simp only [Act.put, List.getElem_toArray, List.getElem_cons_zero, List.getElem_cons_succ, List.setIfInBounds_toArray, List.set_cons_zero, List.set_cons_succ]
                refine anyL_take [] (i := 9) (v := ?_) rfl (by kernel_rfl) (by kernel_rfl) (by kernel_rfl) (fun _ _ _ h => h) (by kernel_rfl) (by kernel_rfl) (fun _ _ => and_congr Iff.rfl (imp_congr (getD_set_iff (by decide)) Iff.rfl)) (Or.inl ⟨by rfl, fun V hV => ?_⟩) (by assumption) ?_
                rotate_left
                · go_simp
                  try with_reducible rfl
                try simp only [Act.put, List.getElem_toArray, List.getElem_cons_zero, List.getElem_cons_succ, List.setIfInBounds_toArray, List.set_cons_zero, List.set_cons_succ]
                refine anyL_take [] (i := 10) (v := ?_) rfl (by kernel_rfl) (by kernel_rfl) (by kernel_rfl) (fun _ _ _ h => h) (by kernel_rfl) (by kernel_rfl) (fun _ _ => and_congr Iff.rfl (imp_congr (getD_set_iff (by decide)) Iff.rfl)) (Or.inl ⟨by rfl, fun V hV => ?_⟩) (by assumption) ?_
                rotate_left
                · go_simp
                  try with_reducible rfl
                try simp only [Act.put, List.getElem_toArray, List.getElem_cons_zero, List.getElem_cons_succ, List.setIfInBounds_toArray, List.set_cons_zero, List.set_cons_succ]
                refine anyL_take [] (i := 11) (v := ?_) rfl (by kernel_rfl) (by kernel_rfl) (by kernel_rfl) (fun _ _ _ h => h) (by kernel_rfl) (by kernel_rfl) (fun _ _ => and_congr Iff.rfl (imp_congr (getD_set_iff (by decide)) Iff.rfl)) (Or.inl ⟨by rfl, fun V hV => ?_⟩) (by assumption) ?_
                rotate_left
                · go_simp
                  try with_reducible rfl
                try simp only [Act.put, List.getElem_toArray, List.getElem_cons_zero, List.getElem_cons_succ, List.setIfInBounds_toArray, List.set_cons_zero, List.set_cons_succ]
                refine anyL_take [18] (i := 12) (v := ?_) rfl (by kernel_rfl) (by kernel_rfl) (by kernel_rfl) (fun _ _ _ h => h) (by kernel_rfl) (by kernel_rfl) (fun _ _ => and_congr Iff.rfl (imp_congr (getD_set_iff (by decide)) Iff.rfl)) (Or.inl ⟨by rfl, fun V hV => ?_⟩) (by assumption) ?_
                rotate_left
                · obtain ⟨l, hn, hV⟩ := hV; have ⟨c0, c1⟩ := hV.2 (hn 18 (by simp)); go_simp
                  try with_reducible rfl
                try simp only [Act.put, List.getElem_toArray, List.getElem_cons_zero, List.getElem_cons_succ, List.setIfInBounds_toArray, List.set_cons_zero, List.set_cons_succ]
                refine anyL_take [] (i := 13) (v := ?_) rfl (by kernel_rfl) (by kernel_rfl) (by kernel_rfl) (fun _ _ _ h => h) (by kernel_rfl) (by kernel_rfl) (fun _ _ => and_congr Iff.rfl (imp_congr (getD_set_iff (by decide)) Iff.rfl)) (Or.inl ⟨by rfl, fun V hV => ?_⟩) (by assumption) ?_
                rotate_left
                · go_simp
                  try with_reducible rfl
                try simp only [Act.put, List.getElem_toArray, List.getElem_cons_zero, List.getElem_cons_succ, List.setIfInBounds_toArray, List.set_cons_zero, List.set_cons_succ]
                refine anyL_take [] (i := 14) (v := ?_) rfl (by kernel_rfl) (by kernel_rfl) (by kernel_rfl) (fun _ _ _ h => h) (by kernel_rfl) (by kernel_rfl) (fun _ _ => and_congr Iff.rfl (imp_congr (getD_set_iff (by decide)) Iff.rfl)) (Or.inl ⟨by rfl, fun V hV => ?_⟩) (by assumption) ?_
                rotate_left
                · obtain ⟨l, hn, hV⟩ := hV; have ⟨r1, r2⟩ := HWR.out; go_simp
                  try with_reducible rfl
                try simp only [Act.put, List.getElem_toArray, List.getElem_cons_zero, List.getElem_cons_succ, List.setIfInBounds_toArray, List.set_cons_zero, List.set_cons_succ]
                refine anyL_take [] (i := 15) (v := ?_) rfl (by kernel_rfl) (by kernel_rfl) (by kernel_rfl) (fun _ _ _ h => h) (by kernel_rfl) (by kernel_rfl) (fun _ _ => and_congr Iff.rfl (imp_congr (getD_set_iff (by decide)) Iff.rfl)) (Or.inl ⟨by rfl, fun V hV => ?_⟩) (by assumption) ?_
                rotate_left
                · go_simp
                  try with_reducible rfl
                try simp only [Act.put, List.getElem_toArray, List.getElem_cons_zero, List.getElem_cons_succ, List.setIfInBounds_toArray, List.set_cons_zero, List.set_cons_succ]
                refine anyL_take [] (i := 16) (v := ?_) rfl (by kernel_rfl) (by kernel_rfl) (by kernel_rfl) (fun _ _ _ h => h) (by kernel_rfl) (by kernel_rfl) (fun _ _ => and_congr Iff.rfl (imp_congr (getD_set_iff (by decide)) Iff.rfl)) (Or.inl ⟨by rfl, fun V hV => ?_⟩) (by assumption) ?_
                rotate_left
                · go_simp
                  try with_reducible rfl
                try simp only [Act.put, List.getElem_toArray, List.getElem_cons_zero, List.getElem_cons_succ, List.setIfInBounds_toArray, List.set_cons_zero, List.set_cons_succ]
                refine anyL_take [] (i := 17) (v := ?_) rfl (by kernel_rfl) (by kernel_rfl) (by kernel_rfl) (fun _ _ _ h => h) (by kernel_rfl) (by kernel_rfl) (fun _ _ => and_congr Iff.rfl (imp_congr (getD_set_iff (by decide)) Iff.rfl)) (Or.inl ⟨by rfl, fun V hV => ?_⟩) (by assumption) ?_
                rotate_left
                · go_simp
                  try with_reducible rfl
                try simp only [Act.put, List.getElem_toArray, List.getElem_cons_zero, List.getElem_cons_succ, List.setIfInBounds_toArray, List.set_cons_zero, List.set_cons_succ]
                refine anyL_one (i := 18) (o := _) (by kernel_rfl) rfl (fun K hK => ?_)
                have ⟨c0, c1⟩ := HCU.out
                have k0 := HFU.out.1
                have HC2 : Hid ((u0.setCell ⟨gr, j * 3 + 1, none⟩ (.int .i64 (if lw < rj.paid.lo then rj.paid.lo - lw else 0))).cell? ⟨gr, j * 3 + 2, none⟩ = some (.int .i64 rj.paid.hi)) := hid (by rw [World.cell?_setCell_other _ _ _ _ (by simp)]; exact c1)
                have HF2 : Hid ((u0.setCell ⟨gr, j * 3 + 1, none⟩ (.int .i64 (if lw < rj.paid.lo then rj.paid.lo - lw else 0))).frozen? ⟨gr, j * 3 + 2, none⟩ = false) := hid (by rw [World.frozen?_setCell]; exact HFU.out.2)
                have HSW := hid (hS.1.1.step' (Below.setCell (Below.refl _ _) (p := ⟨gr, j * 3 + 1, none⟩) HG1.out.1 (.int .i64 (if lw < rj.paid.lo then rj.paid.lo - lw else 0))))
                have HSX := hid (hS.1.2.other (b' := gr) (k' := j * 3 + 1) HG1.out.2.symm (.int .i64 (if lw < rj.paid.lo then rj.paid.lo - lw else 0)))
                clear hS
                go_simp
                clear c1 c0 k0
                obtain ⟨u1, hu1⟩ : ∃ V, (u0.setCell ⟨gr, j * 3 + 1, none⟩ (.int .i64 (if lw < rj.paid.lo then rj.paid.lo - lw else 0))) = V := ⟨_, rfl⟩
                rw [hu1] at HC2 HF2 HSW HSX ⊢
                have HU1 := hid hu1
                clear hu1
                refine hK.out _ _ (⟨⟨HSW.out, HSX.out⟩, fun h => absurd h (by decide)⟩) (fun hS => ?_)
                clear hK K
                try simp only [List.setIfInBounds_toArray, List.set_cons_zero, List.set_cons_succ]
                refine anyL_take [] (i := 19) (v := ?_) rfl (by kernel_rfl) (by kernel_rfl) (by kernel_rfl) (fun _ _ _ h => h) (by kernel_rfl) (by kernel_rfl) (fun _ _ => and_congr Iff.rfl (imp_congr (getD_set_iff (by decide)) Iff.rfl)) (Or.inl ⟨by rfl, fun V hV => ?_⟩) (by assumption) ?_
                rotate_left
                · go_simp
                  try with_reducible rfl
                try simp only [Act.put, List.getElem_toArray, List.getElem_cons_zero, List.getElem_cons_succ, List.setIfInBounds_toArray, List.set_cons_zero, List.set_cons_succ]
                refine anyL_take [] (i := 20) (v := ?_) rfl (by kernel_rfl) (by kernel_rfl) (by kernel_rfl) (fun _ _ _ h => h) (by kernel_rfl) (by kernel_rfl) (fun _ _ => and_congr Iff.rfl (imp_congr (getD_set_iff (by decide)) Iff.rfl)) (Or.inl ⟨by rfl, fun V hV => ?_⟩) (by assumption) ?_
                rotate_left
                · go_simp
                  try with_reducible rfl
                try simp only [Act.put, List.getElem_toArray, List.getElem_cons_zero, List.getElem_cons_succ, List.setIfInBounds_toArray, List.set_cons_zero, List.set_cons_succ]
                refine anyL_one (i := 21) (o := _) (by kernel_rfl) rfl (fun K hK => ?_)
                have c1 := HC2.out
                have k1 := HF2.out
                have HSW := hid (hS.1.1.step' (Below.setCell (Below.refl _ _) (p := ⟨gr, j * 3 + 2, none⟩) HG1.out.1 (.int .i64 (if rj.paid.hi + hh < 10000 then rj.paid.hi + hh else 10000))))
                have HSX := hid (hS.1.2.other (b' := gr) (k' := j * 3 + 2) HG1.out.2.symm (.int .i64 (if rj.paid.hi + hh < 10000 then rj.paid.hi + hh else 10000)))
                clear hS
                go_simp
                clear c1 k1
                obtain ⟨u2, hu2⟩ : ∃ V, (u1.setCell ⟨gr, j * 3 + 2, none⟩ (.int .i64 (if rj.paid.hi + hh < 10000 then rj.paid.hi + hh else 10000))) = V := ⟨_, rfl⟩
                rw [hu2] at HSW HSX ⊢
                rw [← HU1.out] at hu2
                have HU2 := hid hu2
                clear hu2
                refine hK.out _ _ (⟨⟨HSW.out, HSX.out⟩, fun h => absurd h (by decide)⟩) (fun hS => ?_)
                clear hK K
                try simp only [List.setIfInBounds_toArray, List.set_cons_zero, List.set_cons_succ]
                refine anyL_done (by kernel_rfl) ?_ _
                clear hS HU1 HC2 HF2
                have i1 : (if lw < rj.paid.lo then rj.paid.lo - lw else 0) ≤ rj.paid.lo := by split <;> omega
                have i2 : rj.paid.hi ≤ (if rj.paid.hi + hh < 10000 then rj.paid.hi + hh else 10000) := by split <;> omega
                generalize (if lw < rj.paid.lo then rj.paid.lo - lw else 0) = xl at i1 HU2 ⊢
                generalize (if rj.paid.hi + hh < 10000 then rj.paid.hi + hh else 10000) = xh at i2 HU2 ⊢
                have HI4 := hid (And.intro i1 i2)
                clear i1 i2
                go_wp2_with fail
                go_meet
                case rel =>
                  refine ⟨_, WiderP.setR (a := ⟨xl, xh⟩) HRJ.out HI4.out.1 HI4.out.2, trivial, HSX.out, ?_, HSW.out⟩
                  rw [← HU2.out]; exact two_setE HO2.out HRJ.out ⟨xl, xh⟩
            case rest => as_aux_lemma =>
              clear HXP HWI
              obtain ⟨x, hwid, hxp, hx, h2, hw⟩ := hcut
              have HWI := hid hwid; have HXP := hid hxp; replace HX := hid hx; replace HO2 := hid h2; have H6 := hid hw
              clear hwid hxp hx h2 hw
              obtain ⟨w6, hw9⟩ : ∃ V, V = wc := ⟨_, rfl⟩
              subst hw9
              clear HXP
              have HPX : Hid (PrgAt w6 x ql ln tp tn qr rn) := hid ⟨HO2.out.1, by rw [HWI.out.ts]; exact HP.out.t.below H6.out.below, HO2.out.2.1⟩
              rw [← HWI.out.reserve] at HX
              clear HO2 hlw hhh hlb hhb hcy hcv
              have x0 := (HX.out.2 0 (.slice ql ln dl) rfl).1; have x1 := (HX.out.2 1 (.int .i64 x.reserve) rfl).1; have x2 := (HX.out.2 2 (.slice tp tn tc) rfl).1; have x3 := (HX.out.2 3 (.slice qr rn dr) rfl).1
              go_wp2_with fail
              refine (ready_any x ql ln dl tp tn tc qr rn dr w6 HPX.out).mono ?_
              rintro e w7 ⟨rfl, hb⟩
              have H7 := hid (H6.out.step hb)
              replace HX := hid (HX.out.below hb)
              replace HPX := hid (HPX.out.below hb)
              clear hb x0 x1 x2 x3
              cases hrx : readyB x
              · clear hrx
                go_wp2_with fail
                (with_reducible refine (awake_any _).mono ?_)
                rintro e w99 ⟨rfl, hb⟩
                go_wp2_with fail
                go_ret
                exact ⟨rfl, H7.out.below.trans (hb.mono H7.out.below.size)⟩
              · have HOX := hid (ready_iff.1 hrx).1
                clear hrx
                have HFX := hid (fault_iff.2 HOX.out)
                have e0 := H7.out.cell 0 (v := .slice lp ln lc) rfl; have e1 := H7.out.cell 1 (v := .int .i64 p.reserve) rfl; have e2 := H7.out.cell 2 (v := .slice tp tn tc) rfl; have e3 := H7.out.cell 3 (v := .slice rp rn rc) rfl
                go_wp2_with fail
                (with_reducible refine (prog_any p lp ln lc tp tn tc rp rn rc w7 (HP.out.below H7.out.below) (by omega) (by omega) (by omega)).mono ?_)
                rintro e w8 ⟨lq1, lc1, tq1, tc1, rq1, rc1, rfl, hpx, hcx, hb⟩
                have H8 := hid (H7.out.step hb)
                replace HX := hid (HX.out.below hb)
                replace HPX := hid (HPX.out.below hb)
                have HP1 := hid hpx; have HC1 := hid hcx
                clear e0 e1 e2 e3 hb hpx hcx
                go_wp2_with fail
                refine (leave_any p lq1 ln lc1 tq1 tn tc1 rq1 rn rc1 w8 HP1.out).mono ?_
                rintro e w9 ⟨qu, ku, du, rfl, hi, hb⟩
                have H9 := hid (H8.out.step hb)
                replace HX := hid (HX.out.below hb)
                replace HPX := hid (HPX.out.below hb)
                replace HP1 := hid (HP1.out.below hb)
                have hlv : leaveV p = leaveP p := by rw [leaveV, if_pos HF0.out]
                rw [hlv] at hi
                have HKu := hid hi.1
                rw [HF0.out]
                clear hb hi hlv
                have x0 := (HX.out.2 0 (.slice ql ln dl) rfl).1; have x1 := (HX.out.2 1 (.int .i64 x.reserve) rfl).1; have x2 := (HX.out.2 2 (.slice tp tn tc) rfl).1; have x3 := (HX.out.2 3 (.slice qr rn dr) rfl).1
                go_wp2_with fail
                refine (prog_any x ql ln dl tp tn tc qr rn dr w9 HPX.out (by omega) (by omega) (by omega)).mono ?_
                rintro e w10 ⟨lq2, lc2, tq2, tc2, rq2, rc2, rfl, hpx, hcx, hb⟩
                have H10 := hid (H9.out.step hb)
                replace HX := hid (HX.out.below hb)
                replace HPX := hid (HPX.out.below hb)
                have HP2 := hid hpx
                clear hb hpx hcx x0 x1 x2 x3
                go_wp2_with fail
                refine (leave_any x lq2 ln lc2 tq2 tn tc2 rq2 rn rc2 w10 HP2.out).mono ?_
                rintro e w11 ⟨qv, kv, dv, rfl, hi, hb⟩
                have H11 := hid (H10.out.step hb)
                replace HX := hid (HX.out.below hb)
                replace HPX := hid (HPX.out.below hb)
                replace HP2 := hid (HP2.out.below hb)
                have hlv : leaveV x = leaveP x := by rw [leaveV, if_pos HFX.out]
                rw [hlv] at hi
                have HKv := hid hi.1
                rw [HFX.out]
                clear hb hi hlv
                obtain ⟨e1, he1⟩ : ∃ v, errP p = v := ⟨_, rfl⟩
                obtain ⟨e2, he2⟩ : ∃ v, errP x = v := ⟨_, rfl⟩
                have HE1 := hid he1; have HE2 := hid he2
                clear he1 he2
                have e0 := H11.out.cell 0 (v := .slice lp ln lc) rfl; have e1 := H11.out.cell 1 (v := .int .i64 p.reserve) rfl; have e2 := H11.out.cell 2 (v := .slice tp tn tc) rfl; have e3 := H11.out.cell 3 (v := .slice rp rn rc) rfl
                go_wp2_with fail
                (with_reducible refine (prog_any p lp ln lc tp tn tc rp rn rc w11 (HP.out.below H11.out.below) (by omega) (by omega) (by omega)).mono ?_)
                rintro e w12 ⟨lq3, lc3, tq3, tc3, rq3, rc3, rfl, hpx, hcx, hb⟩
                have H12 := hid (H11.out.step hb)
                replace HX := hid (HX.out.below hb)
                replace HPX := hid (HPX.out.below hb)
                have HP3 := hid hpx; have HC3 := hid hcx
                clear e0 e1 e2 e3 hb hpx hcx
                go_wp2_with fail
                refine (bounds_any p lq3 ln lc3 tq3 tn tc3 rq3 rn rc3 w12 HP3.out).mono ?_
                rintro e w13 ⟨v, rfl, hown, hb⟩
                have H13 := hid (H12.out.step hb)
                replace HX := hid (HX.out.below hb)
                replace HPX := hid (HPX.out.below hb)
                replace HP3 := hid (HP3.out.below hb)
                obtain ⟨qa, da, rfl, hrb⟩ := hown.slice cellsB_len
                obtain ⟨ma, hmb⟩ : ∃ m, (bndsP p).length = m := ⟨_, rfl⟩
                have HMBa := hid hmb
                rw [hmb] at hrb ⊢
                have HRBa := hid hrb
                rw [HE1.out]
                clear hb hrb hown hmb
                have x0 := (HX.out.2 0 (.slice ql ln dl) rfl).1; have x1 := (HX.out.2 1 (.int .i64 x.reserve) rfl).1; have x2 := (HX.out.2 2 (.slice tp tn tc) rfl).1; have x3 := (HX.out.2 3 (.slice qr rn dr) rfl).1
                go_wp2_with fail
                refine (prog_any x ql ln dl tp tn tc qr rn dr w13 HPX.out (by omega) (by omega) (by omega)).mono ?_
                rintro e w14 ⟨lq4, lc4, tq4, tc4, rq4, rc4, rfl, hpx, hcx, hb⟩
                have H14 := hid (H13.out.step hb)
                replace HX := hid (HX.out.below hb)
                replace HPX := hid (HPX.out.below hb)
                replace HRBa := hid (HRBa.out.below hb)
                have HP4 := hid hpx
                clear hb hpx hcx x0 x1 x2 x3
                go_wp2_with fail
                refine (bounds_any x lq4 ln lc4 tq4 tn tc4 rq4 rn rc4 w14 HP4.out).mono ?_
                rintro e w15 ⟨v, rfl, hown, hb⟩
                have H15 := hid (H14.out.step hb)
                replace HX := hid (HX.out.below hb)
                replace HPX := hid (HPX.out.below hb)
                replace HRBa := hid (HRBa.out.below hb)
                replace HP4 := hid (HP4.out.below hb)
                obtain ⟨qb, db, rfl, hrb⟩ := hown.slice cellsB_len
                obtain ⟨mb, hmb⟩ : ∃ m, (bndsP x).length = m := ⟨_, rfl⟩
                have HMBb := hid hmb
                rw [hmb] at hrb ⊢
                have HRBb := hid hrb
                rw [HE2.out]
                clear hb hrb hown hmb
                have hml := HWI.out.len HOK.out HOX.out
                rw [← HKu.out, ← HKv.out] at hml
                have hk5 : ku ≤ 5 := by rw [HKu.out]; exact leave_len HOK.out
                have hc1 : ¬ (ku : Int) < kv := by omega
                have hc1b : ¬ ku < kv := by omega
                have HC1 := hid (err_cas HOK.out); have HC2 := hid (err_cas HOX.out)
                rw [HE1.out] at HC1
                rw [HE2.out] at HC2
                have hM2 : 2 ^ tn ≤ 32 := Nat.pow_le_pow_right (n := 2) (by decide) (show tn ≤ 5 by omega)
                have hM1 := Nat.two_pow_pos tn
                have HEN : Hid (everyN tn = ((2 ^ tn - 1 : Nat) : Int)) := hid rfl
                obtain ⟨S, hS⟩ : ∃ S, B &&& (2 ^ tn - 1) = S := ⟨_, rfl⟩
                have hSl : S < 2 ^ tn := by rw [← hS]; exact Nat.lt_of_le_of_lt Nat.and_le_right (by omega)
                have hS32 : S < 32 := by omega
                have hand : bits .and .i64 (B : Int) (everyN tn) = (S : Int) := by rw [HEN.out, i64_and_nat B (2 ^ tn - 1) (by omega) (by omega), hS]
                have hcv : IntKind.i64.wrap (B : Int) = (B : Int) := IntWalk.i64_in _ (by omega)
                have hinc : IncrG p.ts.length 0 (bitsL (S : Int)) := bitsL_incr (by rw [← HP.out.t.1]; exact hSl) (by have := HOK.out.m5; omega)
                have HIN := hid hinc
                have HAN := hid hand
                clear hS hSl hM1 hM2 HEN hinc hand
                cases hpp : possO p allT []
                · have h1 : e1 = 11 := by rw [HC1.out, hpp]; rfl
                  subst h1
                  clear hml hpp HC1 HC2 HRBa HRBb
                  have hand := HAN.out
                  have e0 := H15.out.cell 0 (v := .slice lp ln lc) rfl; have e1 := H15.out.cell 1 (v := .int .i64 p.reserve) rfl; have e2 := H15.out.cell 2 (v := .slice tp tn tc) rfl; have e3 := H15.out.cell 3 (v := .slice rp rn rc) rfl
                  go_wp2_with fail
                  refine (every_any p lp ln lc tp tn tc rp rn rc w15 (by omega)).mono ?_
                  rintro e w16 ⟨rfl, hb⟩
                  have H16 := hid (H15.out.step hb)
                  replace HX := hid (HX.out.below hb)
                  replace HPX := hid (HPX.out.below hb)
                  clear e0 e1 e2 e3 hb 
                  go_wp2_with fail
                  refine (bits_any (S : Int) w16 (by omega) (by omega)).mono ?_
                  rintro e w17 ⟨v, rfl, hown, hb⟩
                  have H17 := hid (H16.out.step hb)
                  replace HX := hid (HX.out.below hb)
                  replace HPX := hid (HPX.out.below hb)
                  obtain ⟨q2, d2, rfl, hi2⟩ := hown.slice
                  obtain ⟨X, hX⟩ : ∃ X, bitsL (S : Int) = X := ⟨_, rfl⟩
                  rw [hX] at hi2 HIN ⊢
                  obtain ⟨m2, hm2⟩ : ∃ m, X.length = m := ⟨_, rfl⟩
                  have hm9 : m2 ≤ 12 := by rw [← hm2, ← hX]; exact bitsTo_len _ 12
                  rw [hm2] at hi2 ⊢
                  have HI2 := hid hi2
                  clear hb hi2 hown hm2 hX
                  have x0 := (HX.out.2 0 (.slice ql ln dl) rfl).1; have x1 := (HX.out.2 1 (.int .i64 x.reserve) rfl).1; have x2 := (HX.out.2 2 (.slice tp tn tc) rfl).1; have x3 := (HX.out.2 3 (.slice qr rn dr) rfl).1
                  go_wp2_with fail
                  refine (prog_any x ql ln dl tp tn tc qr rn dr w17 HPX.out (by omega) (by omega) (by omega)).mono ?_
                  rintro e w18 ⟨lq5, lc5, tq5, tc5, rq5, rc5, rfl, hpx, hcx, hb⟩
                  have H18 := hid (H17.out.step hb)
                  replace HX := hid (HX.out.below hb)
                  replace HPX := hid (HPX.out.below hb)
                  replace HI2 := hid (HI2.out.below hb)
                  have HP5 := hid hpx
                  clear hb hpx hcx x0 x1 x2 x3
                  go_wp2_with fail
                  refine (list_any q2 m2 d2 X w18 HI2.out (by omega)).mono ?_
                  rintro e w19 ⟨v, rfl, hown, hb⟩
                  have H19 := hid (H18.out.step hb)
                  replace HX := hid (HX.out.below hb)
                  replace HPX := hid (HPX.out.below hb)
                  replace HI2 := hid (HI2.out.below hb)
                  replace HP5 := hid (HP5.out.below hb)
                  obtain ⟨q5, d5, rfl, hi1⟩ := hown.slice
                  rw [← HI2.out.1] at hi1 ⊢
                  have HL5 := hid hi1
                  clear hb hown hi1
                  go_wp2_with fail
                  refine (prove_any x lq5 ln lc5 tq5 tn tc5 rq5 rn rc5 q5 m2 d5 X 9999 w19 HP5.out HL5.out (by omega)).mono ?_
                  rintro e w20 ⟨rfl, hb⟩
                  have H20 := hid (H19.out.step hb)
                  replace HX := hid (HX.out.below hb)
                  replace HPX := hid (HPX.out.below hb)
                  replace HI2 := hid (HI2.out.below hb)
                  replace HP5 := hid (HP5.out.below hb)
                  replace HL5 := hid (HL5.out.below hb)
                  clear hb 
                  cases hpv : proveB x X 9999
                  · clear hpv
                    go_wp2_with fail
                    (with_reducible refine (awake_any _).mono ?_)
                    rintro e w99 ⟨rfl, hb⟩
                    go_wp2_with fail
                    go_ret
                    exact ⟨rfl, H20.out.below.trans (hb.mono H20.out.below.size)⟩
                  · have HPV := hid (prove_wider HWI.out HOK.out HOX.out HIN.out hpv)
                    clear hpv
                    have e0 := H20.out.cell 0 (v := .slice lp ln lc) rfl; have e1 := H20.out.cell 1 (v := .int .i64 p.reserve) rfl; have e2 := H20.out.cell 2 (v := .slice tp tn tc) rfl; have e3 := H20.out.cell 3 (v := .slice rp rn rc) rfl
                    go_wp2_with fail
                    (with_reducible refine (prog_any p lp ln lc tp tn tc rp rn rc w20 (HP.out.below H20.out.below) (by omega) (by omega) (by omega)).mono ?_)
                    rintro e w21 ⟨lq6, lc6, tq6, tc6, rq6, rc6, rfl, hpx, hcx, hb⟩
                    have H21 := hid (H20.out.step hb)
                    replace HX := hid (HX.out.below hb)
                    replace HPX := hid (HPX.out.below hb)
                    replace HI2 := hid (HI2.out.below hb)
                    have HP6 := hid hpx; have HC6 := hid hcx
                    clear e0 e1 e2 e3 hb hpx hcx
                    go_wp2_with fail
                    refine (list_any q2 m2 d2 X w21 HI2.out (by omega)).mono ?_
                    rintro e w22 ⟨v, rfl, hown, hb⟩
                    have H22 := hid (H21.out.step hb)
                    replace HX := hid (HX.out.below hb)
                    replace HPX := hid (HPX.out.below hb)
                    replace HI2 := hid (HI2.out.below hb)
                    replace HP6 := hid (HP6.out.below hb)
                    obtain ⟨q6, d6, rfl, hi1⟩ := hown.slice
                    rw [← HI2.out.1] at hi1 ⊢
                    have HL6 := hid hi1
                    clear hb hown hi1
                    go_wp2_with fail
                    refine (prove_any p lq6 ln lc6 tq6 tn tc6 rq6 rn rc6 q6 m2 d6 X 9999 w22 HP6.out HL6.out (by omega)).mono ?_
                    rintro e w23 ⟨rfl, hb⟩
                    have H23 := hid (H22.out.step hb)
                    replace HX := hid (HX.out.below hb)
                    replace HPX := hid (HPX.out.below hb)
                    replace HI2 := hid (HI2.out.below hb)
                    replace HP6 := hid (HP6.out.below hb)
                    replace HL6 := hid (HL6.out.below hb)
                    rw [HPV.out]
                    clear hb 
                    go_wp2_with fail
                    (with_reducible refine (awake_any _).mono ?_)
                    rintro e w99 ⟨rfl, hb⟩
                    go_wp2_with fail
                    go_ret
                    exact ⟨rfl, H23.out.below.trans (hb.mono H23.out.below.size)⟩
                · have h1 : e1 = 0 := by rw [HC1.out, hpp]; rfl
                  subst h1
                  have hpx := poss_sub (HWI.out.tru allT []) hpp
                  have h2 : e2 = 0 := by rw [HC2.out, hpx]; rfl
                  subst h2
                  have HNR := hid (narrow_of (HWI.out.tru allT []) HWI.out.ts.symm HE1.out HE2.out HOK.out)
                  have hma : tn = ma := by rw [← HMBa.out, bnds_len0 HE1.out, HP.out.t.1]
                  have hmb2 : tn = mb := by rw [← HMBb.out, bnds_len0 HE2.out, HWI.out.ts]; exact HP.out.t.1
                  subst hma
                  subst hmb2
                  clear hml hpp hpx HC1 HC2
                  go_wp2_with fail
                  refine (narrow_any qa tn da (bndsP p) qb db (bndsP x) w15 HRBa.out HRBb.out (by omega) HNR.out).mono ?_
                  rintro e w16 ⟨rfl, hb⟩
                  have H16 := hid (H15.out.step hb)
                  replace HX := hid (HX.out.below hb)
                  replace HPX := hid (HPX.out.below hb)
                  replace HRBa := hid (HRBa.out.below hb)
                  replace HRBb := hid (HRBb.out.below hb)
                  clear hb 
                  have hand := HAN.out
                  have e0 := H16.out.cell 0 (v := .slice lp ln lc) rfl; have e1 := H16.out.cell 1 (v := .int .i64 p.reserve) rfl; have e2 := H16.out.cell 2 (v := .slice tp tn tc) rfl; have e3 := H16.out.cell 3 (v := .slice rp rn rc) rfl
                  go_wp2_with fail
                  refine (every_any p lp ln lc tp tn tc rp rn rc w16 (by omega)).mono ?_
                  rintro e w17 ⟨rfl, hb⟩
                  have H17 := hid (H16.out.step hb)
                  replace HX := hid (HX.out.below hb)
                  replace HPX := hid (HPX.out.below hb)
                  clear e0 e1 e2 e3 hb 
                  go_wp2_with fail
                  refine (bits_any (S : Int) w17 (by omega) (by omega)).mono ?_
                  rintro e w18 ⟨v, rfl, hown, hb⟩
                  have H18 := hid (H17.out.step hb)
                  replace HX := hid (HX.out.below hb)
                  replace HPX := hid (HPX.out.below hb)
                  obtain ⟨q2, d2, rfl, hi2⟩ := hown.slice
                  obtain ⟨X, hX⟩ : ∃ X, bitsL (S : Int) = X := ⟨_, rfl⟩
                  rw [hX] at hi2 HIN ⊢
                  obtain ⟨m2, hm2⟩ : ∃ m, X.length = m := ⟨_, rfl⟩
                  have hm9 : m2 ≤ 12 := by rw [← hm2, ← hX]; exact bitsTo_len _ 12
                  rw [hm2] at hi2 ⊢
                  have HI2 := hid hi2
                  clear hb hi2 hown hm2 hX
                  have x0 := (HX.out.2 0 (.slice ql ln dl) rfl).1; have x1 := (HX.out.2 1 (.int .i64 x.reserve) rfl).1; have x2 := (HX.out.2 2 (.slice tp tn tc) rfl).1; have x3 := (HX.out.2 3 (.slice qr rn dr) rfl).1
                  go_wp2_with fail
                  refine (prog_any x ql ln dl tp tn tc qr rn dr w18 HPX.out (by omega) (by omega) (by omega)).mono ?_
                  rintro e w19 ⟨lq5, lc5, tq5, tc5, rq5, rc5, rfl, hpx, hcx, hb⟩
                  have H19 := hid (H18.out.step hb)
                  replace HX := hid (HX.out.below hb)
                  replace HPX := hid (HPX.out.below hb)
                  replace HI2 := hid (HI2.out.below hb)
                  have HP5 := hid hpx
                  clear hb hpx hcx x0 x1 x2 x3
                  go_wp2_with fail
                  refine (list_any q2 m2 d2 X w19 HI2.out (by omega)).mono ?_
                  rintro e w20 ⟨v, rfl, hown, hb⟩
                  have H20 := hid (H19.out.step hb)
                  replace HX := hid (HX.out.below hb)
                  replace HPX := hid (HPX.out.below hb)
                  replace HI2 := hid (HI2.out.below hb)
                  replace HP5 := hid (HP5.out.below hb)
                  obtain ⟨q5, d5, rfl, hi1⟩ := hown.slice
                  rw [← HI2.out.1] at hi1 ⊢
                  have HL5 := hid hi1
                  clear hb hown hi1
                  go_wp2_with fail
                  refine (prove_any x lq5 ln lc5 tq5 tn tc5 rq5 rn rc5 q5 m2 d5 X 9999 w20 HP5.out HL5.out (by omega)).mono ?_
                  rintro e w21 ⟨rfl, hb⟩
                  have H21 := hid (H20.out.step hb)
                  replace HX := hid (HX.out.below hb)
                  replace HPX := hid (HPX.out.below hb)
                  replace HI2 := hid (HI2.out.below hb)
                  replace HP5 := hid (HP5.out.below hb)
                  replace HL5 := hid (HL5.out.below hb)
                  clear hb 
                  cases hpv : proveB x X 9999
                  · clear hpv
                    go_wp2_with fail
                    (with_reducible refine (awake_any _).mono ?_)
                    rintro e w99 ⟨rfl, hb⟩
                    go_wp2_with fail
                    go_ret
                    exact ⟨rfl, H21.out.below.trans (hb.mono H21.out.below.size)⟩
                  · have HPV := hid (prove_wider HWI.out HOK.out HOX.out HIN.out hpv)
                    clear hpv
                    have e0 := H21.out.cell 0 (v := .slice lp ln lc) rfl; have e1 := H21.out.cell 1 (v := .int .i64 p.reserve) rfl; have e2 := H21.out.cell 2 (v := .slice tp tn tc) rfl; have e3 := H21.out.cell 3 (v := .slice rp rn rc) rfl
                    go_wp2_with fail
                    (with_reducible refine (prog_any p lp ln lc tp tn tc rp rn rc w21 (HP.out.below H21.out.below) (by omega) (by omega) (by omega)).mono ?_)
                    rintro e w22 ⟨lq6, lc6, tq6, tc6, rq6, rc6, rfl, hpx, hcx, hb⟩
                    have H22 := hid (H21.out.step hb)
                    replace HX := hid (HX.out.below hb)
                    replace HPX := hid (HPX.out.below hb)
                    replace HI2 := hid (HI2.out.below hb)
                    have HP6 := hid hpx; have HC6 := hid hcx
                    clear e0 e1 e2 e3 hb hpx hcx
                    go_wp2_with fail
                    refine (list_any q2 m2 d2 X w22 HI2.out (by omega)).mono ?_
                    rintro e w23 ⟨v, rfl, hown, hb⟩
                    have H23 := hid (H22.out.step hb)
                    replace HX := hid (HX.out.below hb)
                    replace HPX := hid (HPX.out.below hb)
                    replace HI2 := hid (HI2.out.below hb)
                    replace HP6 := hid (HP6.out.below hb)
                    obtain ⟨q6, d6, rfl, hi1⟩ := hown.slice
                    rw [← HI2.out.1] at hi1 ⊢
                    have HL6 := hid hi1
                    clear hb hown hi1
                    go_wp2_with fail
                    refine (prove_any p lq6 ln lc6 tq6 tn tc6 rq6 rn rc6 q6 m2 d6 X 9999 w23 HP6.out HL6.out (by omega)).mono ?_
                    rintro e w24 ⟨rfl, hb⟩
                    have H24 := hid (H23.out.step hb)
                    replace HX := hid (HX.out.below hb)
                    replace HPX := hid (HPX.out.below hb)
                    replace HI2 := hid (HI2.out.below hb)
                    replace HP6 := hid (HP6.out.below hb)
                    replace HL6 := hid (HL6.out.below hb)
                    rw [HPV.out]
                    clear hb 
                    go_wp2_with fail
                    (with_reducible refine (awake_any _).mono ?_)
                    rintro e w99 ⟨rfl, hb⟩
                    go_wp2_with fail
                    go_ret
                    exact ⟨rfl, H24.out.below.trans (hb.mono H24.out.below.size)⟩
end Go.Proofs.Ytaioobhblfnlaaa
