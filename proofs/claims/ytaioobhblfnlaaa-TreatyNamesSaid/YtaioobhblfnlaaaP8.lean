/- Package treaty: whether there is a truth without some reports; the range of a number in all truths. No condition but a valid programme. -/
import Derived.Test.YtaioobhblfnlaaaP7
namespace Go.Proofs.Ytaioobhblfnlaaa
open Go.RowKit

attribute [local go_sem] Oper.semAt_some
def NQ (Q : Exit → Act → World → Prop) : Exit → Act → World → Prop := fun e a w => e = .normal ∧ Q .normal a w
theorem wpIn_tame {F : Fence} {n : Nat} {P : Program} {c : Code} {Q : Exit → Act → World → Prop} {a : Act} {w : World} (h : c.wpIn F n P (NQ Q) a w) : c.wpIn F n P Q a w :=
  Code.wpIn_mono (fun e a w hq => by obtain ⟨rfl, h⟩ := hq; exact h) h
theorem nq_panic (Q : Exit → Act → World → Prop) (f : Act → Act) : ∀ c a w, NQ Q (.panic c) (f a) w → NQ Q (.panic c) a w := fun _ _ _ h => by cases h.1
/-- The map alone has turned, and knows more. -/
def WkPost (p : Prg) (lp : Option Addr) (ln lc : Nat) (tp : Option Addr) (tn tc : Nat) (rp : Option Addr) (rn rc : Nat) (th : Nat → Bool) (bw bm nn : Nat) (w : World) (v : Value) : Ending → World → Prop := fun e w' => e = .returned v ∧ WkS w' p lp ln lc tp tn tc rp rn rc th bw bm (nn + 6000) ∧ Near (fun k => k = bm) w w'
theorem ints_nil (w : World) : IntsAt w none 0 [] := ⟨rfl, fun i hi => by omega⟩
def bndQ : Option Rng → Rng
  | none => ⟨0, 0⟩
  | some q => q
theorem lt_of_rdT {W : World} {p : Prg} {lp : Option Addr} {ln lc : Nat} {tp : Option Addr} {tn tc : Nat} {rp : Option Addr} {rn rc : Nat} {th : Nat → Bool} {bw bm nn b1 b2 : Nat} {op : Option Addr} {on : Nat} {outl : List Int} (h : WkS W p lp ln lc tp tn tc rp rn rc th bw bm nn) (ho : IntsAt W op on outl) {k : Nat} (hk : RdT bw bm b1 b2 lp ln tp tn rp rn op on k) : k < W.heap.size ∨ k = b1 ∨ k = b2 := by
  rcases hk with hk | hk | hk | hk
  · exact .inl (h.rd hk)
  · exact .inr (.inl hk)
  · exact .inr (.inr hk)
  · exact .inl (ints_lt ho hk)

set_option maxRecDepth 100000 in
set_option maxHeartbeats 8000000 in
theorem possible_any (p : Prg) (lp : Option Addr) (ln lc : Nat) (tp : Option Addr) (tn tc : Nat) (rp : Option Addr) (rn rc : Nat) (th : Nat → Bool) (bw bm nn : Nat) (op : Option Addr) (on oc : Nat) (outl : List Int) (w : World) (ok : OkP p) (hw : WkS w p lp ln lc tp tn tc rp rn rc th bw bm nn) (hM : NotM bm lp ln tp tn rp rn) (hou : IntsAt w op on outl) (hO : ¬ InS op on bm) (hnn : nn + 6000 < maxLen) (hon : on ≤ 100000) :
    Calls Try.prog 79 #[.pointer (some ⟨bw, 0, none⟩), .slice op on oc] w (WkPost p lp ln lc tp tn tc rp rn rc th bw bm nn w (.bool (possO p th outl))) := by
  have HWK := hid hw; have HM := hid hM; have HO := hid hO; have HOU := hid hou; have HOK := hid ok
  have hbm := hw.bmlt
  have hbw := hw.box.1
  obtain ⟨W0, hW0⟩ : ∃ V, (w.alloc (.cells #[.bool false] 4)) = V := ⟨_, rfl⟩
  have HB0 : Hid (Below w.heap.size w W0) := hid (by rw [← hW0]; exact ((Below.refl _ _).alloc (by simp; try omega) _))
  have HZ0 : Hid (W0.heap.size = w.heap.size + 1) := hid (by rw [← hW0]; simp)
  have HX0 : Hid (BoxIs (w.heap.size + 0) #[.bool false] W0) := hid (by
      have h := BoxIs.start w #[.bool false] 4
      try simp only [World.size_alloc, Nat.add_assoc, Nat.reduceAdd] at h
      rw [← hW0]
      exact h)
  clear hw hM hO hou ok
  obtain ⟨W1, hW1⟩ : ∃ V, W0.alloc (.cells #[.pointer (some ⟨bw, 0, none⟩)] 119) = V := ⟨_, rfl⟩
  obtain ⟨W2, hW2⟩ : ∃ V, W1.alloc (.cells #[.slice op on oc] 27) = V := ⟨_, rfl⟩
  have hb1 : Below W0.heap.size W0 W1 := by rw [← hW1]; exact (Below.refl _ _).alloc (Nat.le_refl _) _
  have hb2 : Below W1.heap.size W1 W2 := by rw [← hW2]; exact (Below.refl _ _).alloc (Nat.le_refl _) _
  have hz1 : W1.heap.size = W0.heap.size + 1 := by rw [← hW1]; simp
  have hz2 : W2.heap.size = W0.heap.size + 2 := by rw [← hW2]; simp; omega
  have hz0 := HZ0.out
  have HB2 : Hid (Below w.heap.size w W2) := hid ((HB0.out.trans (hb1.mono (by omega))).trans (hb2.mono (by omega)))
  have HY0 := hid ((HX0.out.below hb1).below hb2)
  have hq1 : W1.cell? ⟨w.heap.size + 1, 0, none⟩ = some (.pointer (some ⟨bw, 0, none⟩)) := by have h := cell_box W0 #[.pointer (some ⟨bw, 0, none⟩)] 119 0 _ rfl; rw [hW1, hz0] at h; exact h
  have HSRC : Hid (SrcT W2 p lp ln lc tp tn tc rp rn rc th bw bm nn (w.heap.size + 1) (w.heap.size + 2) op on oc outl) := hid ⟨HWK.out.near HM.out (near_below (S := fun _ => False) (HB2.out.mono (Nat.le_refl _))) (fun _ _ h => h), (hb2.cell (p := ⟨w.heap.size + 1, 0, none⟩) (show w.heap.size + 1 < W1.heap.size by omega)).trans hq1, (by have h := cell_box W1 #[.slice op on oc] 27 0 _ rfl; rw [hW2, hz1, hz0] at h; exact h), HOU.out.below HB2.out⟩
  clear hq1 hb1 hb2
  have HG := hid (truths_gives p lp ln lc tp tn tc rp rn rc th bw bm nn (w.heap.size + 1) (w.heap.size + 2) op on oc outl W2 21 HOK.out HSRC.out HM.out HO.out hnn hon)
  have HZ2 : Hid (W2.heap.size = w.heap.size + 3) := hid (by omega)
  have HRD : Hid (∀ i, RdT bw bm (w.heap.size + 1) (w.heap.size + 2) lp ln tp tn rp rn op on i → i < w.heap.size ∨ i = w.heap.size + 1 ∨ i = w.heap.size + 2) := hid (fun i hi => lt_of_rdT HWK.out HOU.out hi)
  refine (callsIn_wide (n := 22)).1 ?_
  refine callsIn_of_wp_marks Try.func79 rfl trivial ?_ rfl
  simp only [Try.ntmps79, List.size_toArray, List.length_cons, List.length_nil, Nat.reduceAdd, Nat.reduceSub, Array.replicate_succ, Array.replicate_zero, List.push_toArray, List.append_toArray, List.nil_append, List.cons_append]
  clear hz0 hz1 hz2
  gi_wp2
  refine ⟨trivial, ?_⟩
  gi_at_call 93
  refine (callsIn_wide.2 (truths_any _ _ _ _ _)).mono ?_
  rintro e w5 ⟨rfl, rfl⟩
  rw [hW1, hW2, HZ0.out]
  clear hW0 hW1 hW2
  simp only [Nat.add_assoc, Nat.reduceAdd]
  gi_wp2
  refine wpIn_rangeFunc_near6 rfl (by omega) (gf := 119) (lb := #[.pointer (some ⟨w.heap.size + 1, 0, none⟩), .pointer (some ⟨w.heap.size + 2, 0, none⟩)]) rfl trivial (enters_of Try.func119 (by kernel_rfl) rfl) HG.out (fun V1 V2 h hn => h.near HM.out hn (fun i hi hi2 => by have := HWK.out.rd hi; have := HZ2.out; omega)) (Below.refl _ _)
    (fun i hi => by have h1 := HRD.out i hi; have h2 := HZ2.out; omega) (fun i hi => by have := HZ2.out; omega) (fun i => i = w.heap.size) (fun i hi => ⟨by have := HZ2.out; omega, fun h => by have h1 := HRD.out i h; omega⟩)
    (fun pre V => pre = [] ∧ BoxIs (w.heap.size + 0) #[.bool false] V ∧ Near (fun k => k = bm) w V)
    (fun pre V => pre ≠ [] ∧ BoxIs (w.heap.size + 0) #[.bool true] V ∧ Near (fun k => k = bm) w V)
    (fun pre V1 V2 h hn => ⟨h.1, h.2.1.far hn (by have := HZ2.out; omega), h.2.2.trans' hn (fun i h1 h2 => by have := HZ2.out; omega)⟩)
    (fun pre V1 V2 h hn => ⟨h.1, h.2.1.far hn (by have := HZ2.out; omega), h.2.2.trans' hn (fun i h1 h2 => by have := HZ2.out; omega)⟩)
    ⟨rfl, HY0.out, near_below HB2.out⟩ ?round ?done ?stop
  case round =>
    rintro pre x rest V v hall hsz hE ⟨rfl, hx, hn⟩
    have HX := hid hx; have HN := hid hn
    clear hx hn hE hall hsz
    gi_wp2
    refine ⟨Near.refl _ _, fun V2 hn2 => ?_⟩
    have HX2 := hid (HX.out.far hn2 (by have := HZ2.out; omega))
    have HN2 := hid (HN.out.trans' hn2 (fun i h1 h2 => by have := HZ2.out; omega))
    have x0 := (HX2.out.2 0 (.bool false) rfl).1; have x1 := (HX2.out.2 0 (.bool false) rfl).2
    simp only [Nat.add_zero] at x0 x1
    clear hn2
    gi_wp2
    have hn3 := (Near.refl (fun i => i = w.heap.size) V2).setCell (p := ⟨w.heap.size, 0, none⟩) (fun _ => rfl) (.bool true)
    exact ⟨hn3, by simp, HX2.out.put (j := 0) (.bool true), HN2.out.trans' hn3 (fun i h1 h2 => by omega)⟩
  case done =>
    rintro V ⟨hall, hx, hn⟩ hT hK hsz
    have HX := hid hx; have HN := hid hn; have HTT := hid hT; have HKK := hid hK
    have HF : Hid (possO p th outl = false) := hid (by unfold possO; rw [hall]; rfl)
    clear hall hx hn hT hK hsz
    have x0 := (HX.out.2 0 (.bool false) rfl).1; have x1 := (HX.out.2 0 (.bool false) rfl).2
    simp only [Nat.add_zero] at x0 x1
    gi_wp2
    have hz2 := HZ2.out
    have hK9 : (V.setCell ⟨w.heap.size, 0, none⟩ (.bool false)).heap[W2.heap.size]? = some (.deferred (some [])) := (Below.heap_setCell _ _ _ _ (by show _ ≠ w.heap.size; omega)).trans HKK.out
    refine ⟨by simp, .inl ⟨_, _, rfl, run_takeDeferred hK9, ?_⟩⟩
    have hn9 := ((Near.refl (fun i => i = w.heap.size ∨ i = W2.heap.size) V).setCell (p := ⟨w.heap.size, 0, none⟩) (fun _ => .inl rfl) (.bool false)).trans ((Near.putObj W2.heap.size (.deferred none)).mono fun i _ h => .inr h)
    have x9 := (((HX.out.put (j := 0) (.bool false)).far (Near.putObj W2.heap.size (.deferred none)) (by omega)).2 0 (.bool false) rfl).1
    simp only [Nat.add_zero] at x9
    refine ⟨.bool false, by simp [results, Try.f79, go_sem, x9], by rw [HF.out], HTT.out.near HM.out hn9 (fun i hi hi2 => by have := HWK.out.rd hi; omega), HN.out.trans' hn9 (fun i h1 h2 => by omega)⟩
  case stop =>
    rintro pre rest V hall ⟨hne, hx, hn⟩ hT hK hsz
    have HX := hid hx; have HN := hid hn; have HTT := hid hT; have HKK := hid hK
    have HF : Hid (possO p th outl = true) := hid (poss_iff_ne.2 (by rw [← hall]; intro e; exact hne (List.append_eq_nil_iff.1 e).1))
    clear hall hx hn hT hK hsz hne
    gi_wp2
    have hz2 := HZ2.out
    refine ⟨by simp, .inl ⟨_, _, rfl, run_takeDeferred HKK.out, ?_⟩⟩
    have hn9 := (Near.putObj (w := V) W2.heap.size (.deferred none))
    have x9 := ((HX.out.far hn9 (by omega)).2 0 (.bool true) rfl).1
    simp only [Nat.add_zero] at x9
    refine ⟨.bool true, by simp [results, Try.f79, go_sem, x9], by rw [HF.out], HTT.out.near HM.out hn9 (fun i hi hi2 => by have := HWK.out.rd hi; omega), HN.out.trans' hn9 (fun i h1 h2 => by omega)⟩
theorem nearW (V : World) (b : Nat) (x y : Value) : Near (fun i => i = b) V ((V.setCell ⟨b, 0, none⟩ x).setCell ⟨b, 1, none⟩ y) := near_rng (S := fun i => i = b) (Near.refl _ _) (fun _ => rfl) x y

set_option maxRecDepth 100000 in
set_option maxHeartbeats 8000000 in
theorem bounds84_any (g : (Nat → Int) × Int → Int) (p : Prg) (lp : Option Addr) (ln lc : Nat) (tp : Option Addr) (tn tc : Nat) (rp : Option Addr) (rn rc : Nat) (th : Nat → Bool) (bw bm nn : Nat) (w : World) (ok : OkP p) (hw : WkS w p lp ln lc tp tn tc rp rn rc th bw bm nn) (hM : NotM bm lp ln tp tn rp rn) (hnn : nn + 6000 < maxLen)
    (hof : ∀ V f kp, Near (fun k => k = bm) w V → (∀ i, 0 ≤ f i ∧ f i ≤ 100000) → Calls Try.prog 84 #[.agg #[.int .i64 (f 0), .int .i64 (f 1), .int .i64 (f 2), .int .i64 (f 3), .int .i64 (f 4), .int .i64 kp]] V fun e V' => e = .returned (.int .i64 (g (f, kp))) ∧ Below V.heap.size V V') :
    Calls Try.prog 80 #[.pointer (some ⟨bw, 0, none⟩), .func (.func 84) #[] #[]] w (WkPost p lp ln lc tp tn tc rp rn rc th bw bm nn w (.tuple #[.agg #[.int .i64 (bndQ (bndO g (truO p th []))).lo, .int .i64 (bndQ (bndO g (truO p th []))).hi], .bool (bndO g (truO p th [])).isSome])) := by
  have HWK := hid hw; have HM := hid hM; have HOK := hid ok; have HOF := hid hof
  have hbm := hw.bmlt
  have hbw := hw.box.1
  obtain ⟨W0, hW0⟩ : ∃ V, (((w.alloc (.cells #[.func (.func 84) #[] #[]] 134)).alloc (.cells #[.int .i64 0, .int .i64 0] 51)).alloc (.cells #[.bool false] 4)) = V := ⟨_, rfl⟩
  have HB0 : Hid (Below w.heap.size w W0) := hid (by rw [← hW0]; exact ((((Below.refl _ _).alloc (by simp; try omega) _).alloc (by simp; try omega) _).alloc (by simp; try omega) _))
  have HZ0 : Hid (W0.heap.size = w.heap.size + 3) := hid (by rw [← hW0]; simp)
  have HX0 : Hid (BoxIs (w.heap.size + 0) #[.func (.func 84) #[] #[]] W0) := hid (by
      have h := BoxIs.start w #[.func (.func 84) #[] #[]] 134
      try simp only [World.size_alloc, Nat.add_assoc, Nat.reduceAdd] at h
      rw [← hW0]
      exact ((h.below ((Below.refl _ _).alloc (Nat.le_refl _) _)).below ((Below.refl _ _).alloc (Nat.le_refl _) _)))
  have HX1 : Hid (BoxIs (w.heap.size + 1) #[.int .i64 0, .int .i64 0] W0) := hid (by
      have h := BoxIs.start (w.alloc (.cells #[.func (.func 84) #[] #[]] 134)) #[.int .i64 0, .int .i64 0] 51
      try simp only [World.size_alloc] at h
      rw [← hW0]
      exact (h.below ((Below.refl _ _).alloc (Nat.le_refl _) _)))
  have HX2 : Hid (BoxIs (w.heap.size + 2) #[.bool false] W0) := hid (by
      have h := BoxIs.start ((w.alloc (.cells #[.func (.func 84) #[] #[]] 134)).alloc (.cells #[.int .i64 0, .int .i64 0] 51)) #[.bool false] 4
      try simp only [World.size_alloc, Nat.add_assoc, Nat.reduceAdd] at h
      rw [← hW0]
      exact h)
  have HO : Hid (¬ InS none 0 bm) := hid (by rintro ⟨a, h, _⟩; cases h)
  clear hw hM ok hof
  obtain ⟨W1, hW1⟩ : ∃ V, W0.alloc (.cells #[.pointer (some ⟨bw, 0, none⟩)] 119) = V := ⟨_, rfl⟩
  obtain ⟨W2, hW2⟩ : ∃ V, W1.alloc (.cells #[.slice none 0 0] 27) = V := ⟨_, rfl⟩
  have hb1 : Below W0.heap.size W0 W1 := by rw [← hW1]; exact (Below.refl _ _).alloc (Nat.le_refl _) _
  have hb2 : Below W1.heap.size W1 W2 := by rw [← hW2]; exact (Below.refl _ _).alloc (Nat.le_refl _) _
  have hz1 : W1.heap.size = W0.heap.size + 1 := by rw [← hW1]; simp
  have hz2 : W2.heap.size = W0.heap.size + 2 := by rw [← hW2]; simp; omega
  have hz0 := HZ0.out
  have HB2 : Hid (Below w.heap.size w W2) := hid ((HB0.out.trans (hb1.mono (by omega))).trans (hb2.mono (by omega)))
  have HY0 := hid ((HX0.out.below hb1).below hb2)
  have HY1 := hid ((HX1.out.below hb1).below hb2)
  have HY2 := hid ((HX2.out.below hb1).below hb2)
  have hq1 : W1.cell? ⟨w.heap.size + 3, 0, none⟩ = some (.pointer (some ⟨bw, 0, none⟩)) := by have h := cell_box W0 #[.pointer (some ⟨bw, 0, none⟩)] 119 0 _ rfl; rw [hW1, hz0] at h; exact h
  have HSRC : Hid (SrcT W2 p lp ln lc tp tn tc rp rn rc th bw bm nn (w.heap.size + 3) (w.heap.size + 4) none 0 0 []) := hid ⟨HWK.out.near HM.out (near_below (S := fun _ => False) (HB2.out.mono (Nat.le_refl _))) (fun _ _ h => h), (hb2.cell (p := ⟨w.heap.size + 3, 0, none⟩) (show w.heap.size + 3 < W1.heap.size by omega)).trans hq1, (by have h := cell_box W1 #[.slice none 0 0] 27 0 _ rfl; rw [hW2, hz1, hz0] at h; exact h), ints_nil _⟩
  clear hq1 hb1 hb2
  have HG := hid (truths_gives p lp ln lc tp tn tc rp rn rc th bw bm nn (w.heap.size + 3) (w.heap.size + 4) none 0 0 [] W2 21 HOK.out HSRC.out HM.out HO.out hnn (by omega))
  have HZ2 : Hid (W2.heap.size = w.heap.size + 5) := hid (by omega)
  have HRD : Hid (∀ i, RdT bw bm (w.heap.size + 3) (w.heap.size + 4) lp ln tp tn rp rn none 0 i → i < w.heap.size ∨ i = w.heap.size + 3 ∨ i = w.heap.size + 4) := hid (fun i hi => lt_of_rdT HWK.out (ints_nil _) hi)
  refine (callsIn_wide (n := 22)).1 ?_
  refine callsIn_of_wp_marks Try.func80 rfl trivial ?_ rfl
  simp only [Try.ntmps80, List.size_toArray, List.length_cons, List.length_nil, Nat.reduceAdd, Nat.reduceSub, Array.replicate_succ, Array.replicate_zero, List.push_toArray, List.append_toArray, List.nil_append, List.cons_append]
  clear hz0 hz1 hz2
  gi_wp2
  refine ⟨trivial, ?_⟩
  gi_at_call 93
  refine (callsIn_wide.2 (truths_any _ _ _ _ _)).mono ?_
  rintro e w5 ⟨rfl, rfl⟩
  rw [hW1, hW2, HZ0.out]
  clear hW0 hW1 hW2
  simp only [Nat.add_assoc, Nat.reduceAdd]
  gi_wp2
  refine wpIn_rangeFunc_near6 rfl (by omega) (gf := 119) (lb := #[.pointer (some ⟨w.heap.size + 3, 0, none⟩), .pointer (some ⟨w.heap.size + 4, 0, none⟩)]) rfl trivial (enters_of Try.func119 (by kernel_rfl) rfl) HG.out (fun V1 V2 h hn => h.near HM.out hn (fun i hi hi2 => by have := HWK.out.rd hi; have := HZ2.out; omega)) (Below.refl _ _)
    (fun i hi => by have h1 := HRD.out i hi; have h2 := HZ2.out; omega) (fun i hi => by have := HZ2.out; omega) (fun i => i = w.heap.size + 1 ∨ i = w.heap.size + 2) (fun i hi => ⟨by have := HZ2.out; omega, fun h => by have h1 := HRD.out i h; omega⟩)
    (fun pre V => Near (fun k => k = bm) w V ∧ BoxIs (w.heap.size + 0) #[.func (.func 84) #[] #[]] V ∧ BoxIs (w.heap.size + 1) #[.int .i64 (bndQ (bndO g pre)).lo, .int .i64 (bndQ (bndO g pre)).hi] V ∧ BoxIs (w.heap.size + 2) #[.bool (bndO g pre).isSome] V)
    (fun pre V => False)
    (fun pre V1 V2 h hn => ⟨h.1.trans' hn (fun i h1 h2 => by have := HZ2.out; omega), h.2.1.far hn (by have := HZ2.out; omega), h.2.2.1.far hn (by have := HZ2.out; omega), h.2.2.2.far hn (by have := HZ2.out; omega)⟩)
    (fun pre V1 V2 h hn => h)
    ⟨near_below HB2.out, HY0.out, HY1.out, HY2.out⟩ ?round ?done ?stop
  case round =>
    rintro pre x rest V v hall hsz hE ⟨hn, hx, hr, hb⟩
    obtain ⟨f, kp⟩ := x
    have hE2 : v = .agg (resC f kp) := hE
    subst hE2
    have HPB : Hid (∀ i, 0 ≤ f i ∧ f i ≤ 100000) := hid (fun i => by
      have hmem : (f, kp) ∈ truO p th [] := by rw [hall]; simp
      obtain ⟨l, hl, e, _⟩ := mem_truO.1 hmem
      have h9 := pay_bd HOK.out th hl i
      rw [e] at h9
      simp only at h9
      omega)
    have HX := hid hx; have HN := hid hn; have HR := hid hr; have HB := hid hb; have HSZ := hid hsz
    clear hx hn hE hall hsz hr hb
    unfold resC
    gi_wp2
    refine ⟨(Near.refl _ _).alloc _, fun V2 hn2 => ?_⟩
    have hn3 : Near (fun k => k = W2.heap.size + 1) V V2 := ((Near.refl _ _).alloc _).trans hn2
    have HF2 : Hid (BoxIs V.heap.size #[.int .i64 (f 0), .int .i64 (f 1), .int .i64 (f 2), .int .i64 (f 3), .int .i64 (f 4), .int .i64 kp] V2) := hid ((BoxIs.start V #[.int .i64 (f 0), .int .i64 (f 1), .int .i64 (f 2), .int .i64 (f 3), .int .i64 (f 4), .int .i64 kp] 118).far hn2 (by have := HSZ.out; omega))
    have HN2 := hid (HN.out.trans' hn3 (fun i h1 h2 => by have := HZ2.out; omega))
    have HX2 := hid (HX.out.far hn3 (by have := HZ2.out; omega))
    have HR2 := hid (HR.out.far hn3 (by have := HZ2.out; omega))
    have HB2 := hid (HB.out.far hn3 (by have := HZ2.out; omega))
    have HZV : Hid (w.heap.size + 5 ≤ V.heap.size) := hid (by have := HSZ.out; have := HZ2.out; omega)
    have HSN : Hid (bndO g (pre ++ [(f, kp)]) = bndStep g (bndO g pre) (f, kp)) := hid (bndO_snoc g pre (f, kp))
    clear hn2 hn3 HN HX HR HB
    have x0 := (HX2.out.2 0 (.func (.func 84) #[] #[]) rfl).1
    simp only [Nat.add_zero] at x0
    have y0 := (HF2.out.2 0 (.int .i64 (f 0)) rfl).1; have y1 := (HF2.out.2 1 (.int .i64 (f 1)) rfl).1; have y2 := (HF2.out.2 2 (.int .i64 (f 2)) rfl).1; have y3 := (HF2.out.2 3 (.int .i64 (f 3)) rfl).1; have y4 := (HF2.out.2 4 (.int .i64 (f 4)) rfl).1; have y5 := (HF2.out.2 5 (.int .i64 kp) rfl).1
    gi_wp2
    refine ⟨trivial, ?_⟩
    gi_at_call 84
    refine (CallsIn.inRound _ (callsIn_wide.2 (HOF.out V2 f kp HN2.out HPB.out))).mono ?_
    rintro e V3 ⟨rfl, hb3⟩
    have HX3 := hid (HX2.out.below hb3); have HR3 := hid (HR2.out.below hb3); have HB3 := hid (HB2.out.below hb3); have HN3 := hid (HN2.out.trans (near_below hb3)); have HQ3 : Hid (Near (fun i => i = w.heap.size + 1 ∨ i = w.heap.size + 2) V2 V3) := hid (near_below hb3)
    clear hb3 x0 y0 y1 y2 y3 y4 y5 HX2 HR2 HB2 HN2 HF2
    obtain ⟨z, hz⟩ : ∃ z, g (f, kp) = z := ⟨_, rfl⟩
    have HZG := hid hz
    rw [hz]
    clear hz
    obtain ⟨o, ho⟩ : ∃ o, bndO g pre = o := ⟨_, rfl⟩
    rw [ho] at HR3 HB3 HSN
    clear ho
    cases o with
    | none =>
      have r0 := (HR3.out.2 0 (.int .i64 0) rfl).1; have r1 := (HR3.out.2 1 (.int .i64 0) rfl).1; have r2 := (HR3.out.2 0 (.int .i64 0) rfl).2; have r3 := (HR3.out.2 1 (.int .i64 0) rfl).2
      have b0 := (HB3.out.2 0 (.bool false) rfl).1; have b1 := (HB3.out.2 0 (.bool false) rfl).2
      obtain ⟨V4, hV4⟩ : ∃ U, ((V3.setCell ⟨w.heap.size + 1, 0, none⟩ (.int .i64 z)).setCell ⟨w.heap.size + 1, 1, none⟩ (.int .i64 z)).setCell ⟨w.heap.size + 2, 0, none⟩ (.bool true) = U := ⟨_, rfl⟩
      have hn4 : Near (fun i => i = w.heap.size + 1 ∨ i = w.heap.size + 2) V3 V4 := by rw [← hV4]; exact ((nearW V3 (w.heap.size + 1) _ _).mono (fun i _ h => .inl h)).setCell (p := ⟨w.heap.size + 2, 0, none⟩) (fun _ => .inr rfl) _
      have HR4 : Hid (BoxIs (w.heap.size + 1) #[.int .i64 z, .int .i64 z] V4) := hid (by rw [← hV4]; exact ((HR3.out.setRng (r := ⟨0, 0⟩) (q := ⟨z, z⟩))).other (by omega) _)
      have HB4 : Hid (BoxIs (w.heap.size + 2) #[.bool true] V4) := hid (by rw [← hV4]; exact ((HB3.out.other (by omega) _).other (by omega) _).put (j := 0) (.bool true))
      have HX4 := hid (HX3.out.far hn4 (by omega)); have HN4 := hid (HN3.out.trans' hn4 (fun i h1 h2 => by omega)); have HQ4 := hid (HQ3.out.trans hn4)
      clear hn4 HX3 HR3 HB3 HN3 HQ3
      have r0 := (HR4.out.2 0 (.int .i64 z) rfl).1; have r1 := (HR4.out.2 1 (.int .i64 z) rfl).1
      gi_wp2
      refine ⟨trivial, ?_⟩
      gi_at_call 116
      refine (CallsIn.inRound _ (callsIn_wide.2 (wider_any ⟨z, z⟩ z _))).mono ?_
      rintro e V5 ⟨rfl, hb5⟩
      have HX5 := hid (HX4.out.below hb5); have HR5 := hid (HR4.out.below hb5); have HB5 := hid (HB4.out.below hb5); have HN5 := hid (HN4.out.trans (near_below hb5)); have HQ5 := hid (HQ4.out.trans (near_below hb5))
      clear hb5 r0 r1 HX4 HR4 HB4 HN4 HQ4
      rw [wider_self]
      have r0 := (HR5.out.2 0 (.int .i64 z) rfl).1; have r1 := (HR5.out.2 1 (.int .i64 z) rfl).1; have r2 := (HR5.out.2 0 (.int .i64 z) rfl).2; have r3 := (HR5.out.2 1 (.int .i64 z) rfl).2
      gi_wp2
      have hn6 := nearW V5 (w.heap.size + 1) (.int .i64 z) (.int .i64 z)
      refine ⟨HQ5.out.trans (hn6.mono (fun i _ h => .inl h)), HN5.out.trans' hn6 (fun i h1 h2 => by omega), HX5.out.far hn6 (by omega), ?_, ?_⟩
      · rw [HSN.out]; simp only [bndStep, bndQ, HZG.out]; exact (HR5.out.setRng (r := ⟨z, z⟩) (q := ⟨z, z⟩))
      · rw [HSN.out]; exact HB5.out.far hn6 (by omega)
    | some q =>
      have b0 := (HB3.out.2 0 (.bool true) rfl).1
      have HX4 := HX3; have HR4 : Hid (BoxIs (w.heap.size + 1) #[.int .i64 q.lo, .int .i64 q.hi] V3) := HR3; have HB4 := HB3; have HN4 := HN3; have HQ4 := HQ3
      clear HX3 HR3 HB3 HN3 HQ3
      have r0 := (HR4.out.2 0 (.int .i64 q.lo) rfl).1; have r1 := (HR4.out.2 1 (.int .i64 q.hi) rfl).1
      gi_wp2
      refine ⟨trivial, ?_⟩
      gi_at_call 116
      refine (CallsIn.inRound _ (callsIn_wide.2 (wider_any q z _))).mono ?_
      rintro e V5 ⟨rfl, hb5⟩
      have HX5 := hid (HX4.out.below hb5); have HR5 := hid (HR4.out.below hb5); have HB5 := hid (HB4.out.below hb5); have HN5 := hid (HN4.out.trans (near_below hb5)); have HQ5 := hid (HQ4.out.trans (near_below hb5))
      clear hb5 r0 r1 HX4 HR4 HB4 HN4 HQ4
      have r0 := (HR5.out.2 0 (.int .i64 q.lo) rfl).1; have r1 := (HR5.out.2 1 (.int .i64 q.hi) rfl).1; have r2 := (HR5.out.2 0 (.int .i64 q.lo) rfl).2; have r3 := (HR5.out.2 1 (.int .i64 q.hi) rfl).2
      gi_wp2
      have hn6 := nearW V5 (w.heap.size + 1) (.int .i64 (widerR q z).lo) (.int .i64 (widerR q z).hi)
      refine ⟨HQ5.out.trans (hn6.mono (fun i _ h => .inl h)), HN5.out.trans' hn6 (fun i h1 h2 => by omega), HX5.out.far hn6 (by omega), ?_, ?_⟩
      · rw [HSN.out]; simp only [bndStep, bndQ, HZG.out]; exact HR5.out.setRng
      · rw [HSN.out]; exact HB5.out.far hn6 (by omega)
  case done =>
    rintro V ⟨hn, hx, hr, hb⟩ hT hK hsz
    obtain ⟨o, ho⟩ : ∃ o, bndO g (truO p th []) = o := ⟨_, rfl⟩
    rw [ho] at hr hb
    have HR := hid hr; have HB := hid hb; have HN := hid hn; have HTT := hid hT; have HKK := hid hK; have HOO := hid ho
    clear hr hb hn hT hK hsz hx ho
    obtain ⟨L, hL⟩ : ∃ z, (bndQ o).lo = z := ⟨_, rfl⟩
    obtain ⟨H, hH⟩ : ∃ z, (bndQ o).hi = z := ⟨_, rfl⟩
    obtain ⟨B, hB⟩ : ∃ z, o.isSome = z := ⟨_, rfl⟩
    have HL := hid hL; have HH := hid hH; have HBB := hid hB
    rw [hL, hH] at HR
    rw [hB] at HB
    clear hL hH hB
    gi_wp2
    refine wpIn_tame ?_
    refine wpIn_region_anyS (S := fun V => BoxIs (w.heap.size + 1) #[.int .i64 L, .int .i64 H] V ∧ BoxIs (w.heap.size + 2) #[.bool B] V ∧ Near (fun k => k = bm) w V ∧ WkS V p lp ln lc tp tn tc rp rn rc th bw bm (nn + 6000) ∧ V.heap[W2.heap.size]? = some (.deferred (some []))) (by kernel_rfl) ⟨HR.out.below (Below.refl _ _).drew, HB.out.below (Below.refl _ _).drew, HN.out.drew, HTT.out.below HM.out (Below.refl _ _).drew, HKK.out⟩ (fun hS => ?_)
    obtain ⟨U0, hU0⟩ : ∃ U, V.drew = U := ⟨_, rfl⟩
    rw [hU0] at hS ⊢
    clear hU0
    simp only [List.size_toArray, List.length_cons, List.length_nil, Nat.reduceAdd, Array.replicate_succ, Array.replicate_zero, List.push_toArray, List.nil_append, List.cons_append]
    refine anyS_take (i := 0) (v := ?_) rfl rfl (by kernel_rfl) (by kernel_rfl) (by kernel_rfl) (nq_panic _ _) (Or.inl ⟨by rfl, fun V hV => ?_⟩) (fun _ => rfl) (by assumption) ?_
    rotate_left
    · have e0 := (hV.1.2 0 (.int .i64 L) rfl).1; have e1 := (hV.1.2 1 (.int .i64 H) rfl).1; go_simp
      try with_reducible rfl
    try simp only [Act.put, List.getElem_toArray, List.getElem_cons_zero, List.setIfInBounds_toArray, List.set_cons_zero, List.set_cons_succ]
    refine anyS_take (i := 1) (v := ?_) rfl rfl (by kernel_rfl) (by kernel_rfl) (by kernel_rfl) (nq_panic _ _) (Or.inl ⟨by rfl, fun V hV => ?_⟩) (fun _ => rfl) (by assumption) ?_
    rotate_left
    · have e0 := (hV.2.1.2 0 (.bool B) rfl).1; go_simp
      try with_reducible rfl
    try simp only [Act.put, List.getElem_toArray, List.getElem_cons_zero, List.getElem_cons_succ, List.setIfInBounds_toArray, List.set_cons_zero, List.set_cons_succ]
    refine anyS_one (i := 2) (by kernel_rfl) rfl (fun K hK => ?_)
    have k0 := (hS.1.2 0 (.int .i64 L) rfl).1; have k1 := (hS.1.2 1 (.int .i64 H) rfl).1; have k2 := (hS.1.2 0 (.int .i64 L) rfl).2; have k3 := (hS.1.2 1 (.int .i64 H) rfl).2
    go_simp
    have hz2 := HZ2.out
    have hn6 := fun V : World => nearW V (w.heap.size + 1) (.int .i64 L) (.int .i64 H)
    have hs6 := fun (U : World) (h : BoxIs (w.heap.size + 1) #[.int .i64 L, .int .i64 H] U) => (show BoxIs (w.heap.size + 1) #[.int .i64 L, .int .i64 H] ((U.setCell ⟨w.heap.size + 1, 0, none⟩ (.int .i64 L)).setCell ⟨w.heap.size + 1, 1, none⟩ (.int .i64 H)) from h.setRng (r := ⟨L, H⟩) (q := ⟨L, H⟩))
    refine hK.out _ _ ⟨hs6 _ hS.1, hS.2.1.far (hn6 _) (by omega), hS.2.2.1.trans' (hn6 _) (fun i h1 h2 => by omega), hS.2.2.2.1.near HM.out (hn6 _) (fun i hi hi2 => by have := HWK.out.rd hi; omega), ((hn6 _).block _ (Array.getElem?_eq_some_iff.1 hS.2.2.2.2).1 (by omega)).trans hS.2.2.2.2⟩ (fun hS => ?_)
    clear hK K k0 k1 k2 k3 hz2 hn6 hs6
    try simp only [List.setIfInBounds_toArray, List.set_cons_zero, List.set_cons_succ]
    refine anyS_one (i := 3) (by kernel_rfl) rfl (fun K hK => ?_)
    have k0 := (hS.2.1.2 0 (.bool B) rfl).1; have k1 := (hS.2.1.2 0 (.bool B) rfl).2
    go_simp
    have hz2 := HZ2.out
    have hn6 := fun V : World => near_one (S := fun i => i = w.heap.size + 2) (W := V) (o := 0) rfl (.bool B)
    refine hK.out _ _ ⟨hS.1.far (hn6 _) (by omega), hS.2.1.put (j := 0) (.bool B), hS.2.2.1.trans' (hn6 _) (fun i h1 h2 => by omega), hS.2.2.2.1.near HM.out (hn6 _) (fun i hi hi2 => by have := HWK.out.rd hi; omega), ((hn6 _).block _ (Array.getElem?_eq_some_iff.1 hS.2.2.2.2).1 (by omega)).trans hS.2.2.2.2⟩ (fun hS => ?_)
    clear hK K k0 k1 hn6
    try simp only [List.setIfInBounds_toArray, List.set_cons_zero, List.set_cons_succ]
    refine anyS_done (by kernel_rfl) ⟨rfl, ?_⟩ _
    gi_wp2
    refine ⟨by simp, .inl ⟨_, _, rfl, run_takeDeferred hS.2.2.2.2, ?_⟩⟩
    have hn9 := fun V : World => Near.putObj (w := V) W2.heap.size (.deferred none)
    have q0 := ((hS.1.far (hn9 _) (by omega)).2 0 (.int .i64 L) rfl).1; have q1 := ((hS.1.far (hn9 _) (by omega)).2 1 (.int .i64 H) rfl).1; have q2 := ((hS.2.1.far (hn9 _) (by omega)).2 0 (.bool B) rfl).1
    refine ⟨.tuple #[.agg #[.int .i64 L, .int .i64 H], .bool B], by simp [results, Try.f80, go_sem, q0, q1, q2], ?_, hS.2.2.2.1.near HM.out (hn9 _) (fun i hi hi2 => by have := HWK.out.rd hi; omega), hS.2.2.1.trans' (hn9 _) (fun i h1 h2 => by omega)⟩
    rw [HOO.out, HL.out, HH.out, HBB.out]
  case stop =>
    rintro pre rest V hall hx hT hK hsz
    exact hx.elim

set_option maxRecDepth 100000 in
set_option maxHeartbeats 8000000 in
theorem bounds118_any (g : (Nat → Int) × Int → Int) (p : Prg) (lp : Option Addr) (ln lc : Nat) (tp : Option Addr) (tn tc : Nat) (rp : Option Addr) (rn rc : Nat) (th : Nat → Bool) (bw bm nn : Nat) (w : World) (ok : OkP p) (hw : WkS w p lp ln lc tp tn tc rp rn rc th bw bm nn) (hM : NotM bm lp ln tp tn rp rn) (hnn : nn + 6000 < maxLen)
    (hof : ∀ V f kp, Near (fun k => k = bm) w V → (∀ i, 0 ≤ f i ∧ f i ≤ 100000) → Calls Try.prog 118 #[.agg #[.int .i64 (f 0), .int .i64 (f 1), .int .i64 (f 2), .int .i64 (f 3), .int .i64 (f 4), .int .i64 kp]] V fun e V' => e = .returned (.int .i64 (g (f, kp))) ∧ Below V.heap.size V V') :
    Calls Try.prog 80 #[.pointer (some ⟨bw, 0, none⟩), .func (.func 118) #[] #[]] w (WkPost p lp ln lc tp tn tc rp rn rc th bw bm nn w (.tuple #[.agg #[.int .i64 (bndQ (bndO g (truO p th []))).lo, .int .i64 (bndQ (bndO g (truO p th []))).hi], .bool (bndO g (truO p th [])).isSome])) := by
  have HWK := hid hw; have HM := hid hM; have HOK := hid ok; have HOF := hid hof
  have hbm := hw.bmlt
  have hbw := hw.box.1
  obtain ⟨W0, hW0⟩ : ∃ V, (((w.alloc (.cells #[.func (.func 118) #[] #[]] 134)).alloc (.cells #[.int .i64 0, .int .i64 0] 51)).alloc (.cells #[.bool false] 4)) = V := ⟨_, rfl⟩
  have HB0 : Hid (Below w.heap.size w W0) := hid (by rw [← hW0]; exact ((((Below.refl _ _).alloc (by simp; try omega) _).alloc (by simp; try omega) _).alloc (by simp; try omega) _))
  have HZ0 : Hid (W0.heap.size = w.heap.size + 3) := hid (by rw [← hW0]; simp)
  have HX0 : Hid (BoxIs (w.heap.size + 0) #[.func (.func 118) #[] #[]] W0) := hid (by
      have h := BoxIs.start w #[.func (.func 118) #[] #[]] 134
      try simp only [World.size_alloc, Nat.add_assoc, Nat.reduceAdd] at h
      rw [← hW0]
      exact ((h.below ((Below.refl _ _).alloc (Nat.le_refl _) _)).below ((Below.refl _ _).alloc (Nat.le_refl _) _)))
  have HX1 : Hid (BoxIs (w.heap.size + 1) #[.int .i64 0, .int .i64 0] W0) := hid (by
      have h := BoxIs.start (w.alloc (.cells #[.func (.func 118) #[] #[]] 134)) #[.int .i64 0, .int .i64 0] 51
      try simp only [World.size_alloc] at h
      rw [← hW0]
      exact (h.below ((Below.refl _ _).alloc (Nat.le_refl _) _)))
  have HX2 : Hid (BoxIs (w.heap.size + 2) #[.bool false] W0) := hid (by
      have h := BoxIs.start ((w.alloc (.cells #[.func (.func 118) #[] #[]] 134)).alloc (.cells #[.int .i64 0, .int .i64 0] 51)) #[.bool false] 4
      try simp only [World.size_alloc, Nat.add_assoc, Nat.reduceAdd] at h
      rw [← hW0]
      exact h)
  have HO : Hid (¬ InS none 0 bm) := hid (by rintro ⟨a, h, _⟩; cases h)
  clear hw hM ok hof
  obtain ⟨W1, hW1⟩ : ∃ V, W0.alloc (.cells #[.pointer (some ⟨bw, 0, none⟩)] 119) = V := ⟨_, rfl⟩
  obtain ⟨W2, hW2⟩ : ∃ V, W1.alloc (.cells #[.slice none 0 0] 27) = V := ⟨_, rfl⟩
  have hb1 : Below W0.heap.size W0 W1 := by rw [← hW1]; exact (Below.refl _ _).alloc (Nat.le_refl _) _
  have hb2 : Below W1.heap.size W1 W2 := by rw [← hW2]; exact (Below.refl _ _).alloc (Nat.le_refl _) _
  have hz1 : W1.heap.size = W0.heap.size + 1 := by rw [← hW1]; simp
  have hz2 : W2.heap.size = W0.heap.size + 2 := by rw [← hW2]; simp; omega
  have hz0 := HZ0.out
  have HB2 : Hid (Below w.heap.size w W2) := hid ((HB0.out.trans (hb1.mono (by omega))).trans (hb2.mono (by omega)))
  have HY0 := hid ((HX0.out.below hb1).below hb2)
  have HY1 := hid ((HX1.out.below hb1).below hb2)
  have HY2 := hid ((HX2.out.below hb1).below hb2)
  have hq1 : W1.cell? ⟨w.heap.size + 3, 0, none⟩ = some (.pointer (some ⟨bw, 0, none⟩)) := by have h := cell_box W0 #[.pointer (some ⟨bw, 0, none⟩)] 119 0 _ rfl; rw [hW1, hz0] at h; exact h
  have HSRC : Hid (SrcT W2 p lp ln lc tp tn tc rp rn rc th bw bm nn (w.heap.size + 3) (w.heap.size + 4) none 0 0 []) := hid ⟨HWK.out.near HM.out (near_below (S := fun _ => False) (HB2.out.mono (Nat.le_refl _))) (fun _ _ h => h), (hb2.cell (p := ⟨w.heap.size + 3, 0, none⟩) (show w.heap.size + 3 < W1.heap.size by omega)).trans hq1, (by have h := cell_box W1 #[.slice none 0 0] 27 0 _ rfl; rw [hW2, hz1, hz0] at h; exact h), ints_nil _⟩
  clear hq1 hb1 hb2
  have HG := hid (truths_gives p lp ln lc tp tn tc rp rn rc th bw bm nn (w.heap.size + 3) (w.heap.size + 4) none 0 0 [] W2 21 HOK.out HSRC.out HM.out HO.out hnn (by omega))
  have HZ2 : Hid (W2.heap.size = w.heap.size + 5) := hid (by omega)
  have HRD : Hid (∀ i, RdT bw bm (w.heap.size + 3) (w.heap.size + 4) lp ln tp tn rp rn none 0 i → i < w.heap.size ∨ i = w.heap.size + 3 ∨ i = w.heap.size + 4) := hid (fun i hi => lt_of_rdT HWK.out (ints_nil _) hi)
  refine (callsIn_wide (n := 22)).1 ?_
  refine callsIn_of_wp_marks Try.func80 rfl trivial ?_ rfl
  simp only [Try.ntmps80, List.size_toArray, List.length_cons, List.length_nil, Nat.reduceAdd, Nat.reduceSub, Array.replicate_succ, Array.replicate_zero, List.push_toArray, List.append_toArray, List.nil_append, List.cons_append]
  clear hz0 hz1 hz2
  gi_wp2
  refine ⟨trivial, ?_⟩
  gi_at_call 93
  refine (callsIn_wide.2 (truths_any _ _ _ _ _)).mono ?_
  rintro e w5 ⟨rfl, rfl⟩
  rw [hW1, hW2, HZ0.out]
  clear hW0 hW1 hW2
  simp only [Nat.add_assoc, Nat.reduceAdd]
  gi_wp2
  refine wpIn_rangeFunc_near6 rfl (by omega) (gf := 119) (lb := #[.pointer (some ⟨w.heap.size + 3, 0, none⟩), .pointer (some ⟨w.heap.size + 4, 0, none⟩)]) rfl trivial (enters_of Try.func119 (by kernel_rfl) rfl) HG.out (fun V1 V2 h hn => h.near HM.out hn (fun i hi hi2 => by have := HWK.out.rd hi; have := HZ2.out; omega)) (Below.refl _ _)
    (fun i hi => by have h1 := HRD.out i hi; have h2 := HZ2.out; omega) (fun i hi => by have := HZ2.out; omega) (fun i => i = w.heap.size + 1 ∨ i = w.heap.size + 2) (fun i hi => ⟨by have := HZ2.out; omega, fun h => by have h1 := HRD.out i h; omega⟩)
    (fun pre V => Near (fun k => k = bm) w V ∧ BoxIs (w.heap.size + 0) #[.func (.func 118) #[] #[]] V ∧ BoxIs (w.heap.size + 1) #[.int .i64 (bndQ (bndO g pre)).lo, .int .i64 (bndQ (bndO g pre)).hi] V ∧ BoxIs (w.heap.size + 2) #[.bool (bndO g pre).isSome] V)
    (fun pre V => False)
    (fun pre V1 V2 h hn => ⟨h.1.trans' hn (fun i h1 h2 => by have := HZ2.out; omega), h.2.1.far hn (by have := HZ2.out; omega), h.2.2.1.far hn (by have := HZ2.out; omega), h.2.2.2.far hn (by have := HZ2.out; omega)⟩)
    (fun pre V1 V2 h hn => h)
    ⟨near_below HB2.out, HY0.out, HY1.out, HY2.out⟩ ?round ?done ?stop
  case round =>
    rintro pre x rest V v hall hsz hE ⟨hn, hx, hr, hb⟩
    obtain ⟨f, kp⟩ := x
    have hE2 : v = .agg (resC f kp) := hE
    subst hE2
    have HPB : Hid (∀ i, 0 ≤ f i ∧ f i ≤ 100000) := hid (fun i => by
      have hmem : (f, kp) ∈ truO p th [] := by rw [hall]; simp
      obtain ⟨l, hl, e, _⟩ := mem_truO.1 hmem
      have h9 := pay_bd HOK.out th hl i
      rw [e] at h9
      simp only at h9
      omega)
    have HX := hid hx; have HN := hid hn; have HR := hid hr; have HB := hid hb; have HSZ := hid hsz
    clear hx hn hE hall hsz hr hb
    unfold resC
    gi_wp2
    refine ⟨(Near.refl _ _).alloc _, fun V2 hn2 => ?_⟩
    have hn3 : Near (fun k => k = W2.heap.size + 1) V V2 := ((Near.refl _ _).alloc _).trans hn2
    have HF2 : Hid (BoxIs V.heap.size #[.int .i64 (f 0), .int .i64 (f 1), .int .i64 (f 2), .int .i64 (f 3), .int .i64 (f 4), .int .i64 kp] V2) := hid ((BoxIs.start V #[.int .i64 (f 0), .int .i64 (f 1), .int .i64 (f 2), .int .i64 (f 3), .int .i64 (f 4), .int .i64 kp] 118).far hn2 (by have := HSZ.out; omega))
    have HN2 := hid (HN.out.trans' hn3 (fun i h1 h2 => by have := HZ2.out; omega))
    have HX2 := hid (HX.out.far hn3 (by have := HZ2.out; omega))
    have HR2 := hid (HR.out.far hn3 (by have := HZ2.out; omega))
    have HB2 := hid (HB.out.far hn3 (by have := HZ2.out; omega))
    have HZV : Hid (w.heap.size + 5 ≤ V.heap.size) := hid (by have := HSZ.out; have := HZ2.out; omega)
    have HSN : Hid (bndO g (pre ++ [(f, kp)]) = bndStep g (bndO g pre) (f, kp)) := hid (bndO_snoc g pre (f, kp))
    clear hn2 hn3 HN HX HR HB
    have x0 := (HX2.out.2 0 (.func (.func 118) #[] #[]) rfl).1
    simp only [Nat.add_zero] at x0
    have y0 := (HF2.out.2 0 (.int .i64 (f 0)) rfl).1; have y1 := (HF2.out.2 1 (.int .i64 (f 1)) rfl).1; have y2 := (HF2.out.2 2 (.int .i64 (f 2)) rfl).1; have y3 := (HF2.out.2 3 (.int .i64 (f 3)) rfl).1; have y4 := (HF2.out.2 4 (.int .i64 (f 4)) rfl).1; have y5 := (HF2.out.2 5 (.int .i64 kp) rfl).1
    gi_wp2
    refine ⟨trivial, ?_⟩
    gi_at_call 118
    refine (CallsIn.inRound _ (callsIn_wide.2 (HOF.out V2 f kp HN2.out HPB.out))).mono ?_
    rintro e V3 ⟨rfl, hb3⟩
    have HX3 := hid (HX2.out.below hb3); have HR3 := hid (HR2.out.below hb3); have HB3 := hid (HB2.out.below hb3); have HN3 := hid (HN2.out.trans (near_below hb3)); have HQ3 : Hid (Near (fun i => i = w.heap.size + 1 ∨ i = w.heap.size + 2) V2 V3) := hid (near_below hb3)
    clear hb3 x0 y0 y1 y2 y3 y4 y5 HX2 HR2 HB2 HN2 HF2
    obtain ⟨z, hz⟩ : ∃ z, g (f, kp) = z := ⟨_, rfl⟩
    have HZG := hid hz
    rw [hz]
    clear hz
    obtain ⟨o, ho⟩ : ∃ o, bndO g pre = o := ⟨_, rfl⟩
    rw [ho] at HR3 HB3 HSN
    clear ho
    cases o with
    | none =>
      have r0 := (HR3.out.2 0 (.int .i64 0) rfl).1; have r1 := (HR3.out.2 1 (.int .i64 0) rfl).1; have r2 := (HR3.out.2 0 (.int .i64 0) rfl).2; have r3 := (HR3.out.2 1 (.int .i64 0) rfl).2
      have b0 := (HB3.out.2 0 (.bool false) rfl).1; have b1 := (HB3.out.2 0 (.bool false) rfl).2
      obtain ⟨V4, hV4⟩ : ∃ U, ((V3.setCell ⟨w.heap.size + 1, 0, none⟩ (.int .i64 z)).setCell ⟨w.heap.size + 1, 1, none⟩ (.int .i64 z)).setCell ⟨w.heap.size + 2, 0, none⟩ (.bool true) = U := ⟨_, rfl⟩
      have hn4 : Near (fun i => i = w.heap.size + 1 ∨ i = w.heap.size + 2) V3 V4 := by rw [← hV4]; exact ((nearW V3 (w.heap.size + 1) _ _).mono (fun i _ h => .inl h)).setCell (p := ⟨w.heap.size + 2, 0, none⟩) (fun _ => .inr rfl) _
      have HR4 : Hid (BoxIs (w.heap.size + 1) #[.int .i64 z, .int .i64 z] V4) := hid (by rw [← hV4]; exact ((HR3.out.setRng (r := ⟨0, 0⟩) (q := ⟨z, z⟩))).other (by omega) _)
      have HB4 : Hid (BoxIs (w.heap.size + 2) #[.bool true] V4) := hid (by rw [← hV4]; exact ((HB3.out.other (by omega) _).other (by omega) _).put (j := 0) (.bool true))
      have HX4 := hid (HX3.out.far hn4 (by omega)); have HN4 := hid (HN3.out.trans' hn4 (fun i h1 h2 => by omega)); have HQ4 := hid (HQ3.out.trans hn4)
      clear hn4 HX3 HR3 HB3 HN3 HQ3
      have r0 := (HR4.out.2 0 (.int .i64 z) rfl).1; have r1 := (HR4.out.2 1 (.int .i64 z) rfl).1
      gi_wp2
      refine ⟨trivial, ?_⟩
      gi_at_call 116
      refine (CallsIn.inRound _ (callsIn_wide.2 (wider_any ⟨z, z⟩ z _))).mono ?_
      rintro e V5 ⟨rfl, hb5⟩
      have HX5 := hid (HX4.out.below hb5); have HR5 := hid (HR4.out.below hb5); have HB5 := hid (HB4.out.below hb5); have HN5 := hid (HN4.out.trans (near_below hb5)); have HQ5 := hid (HQ4.out.trans (near_below hb5))
      clear hb5 r0 r1 HX4 HR4 HB4 HN4 HQ4
      rw [wider_self]
      have r0 := (HR5.out.2 0 (.int .i64 z) rfl).1; have r1 := (HR5.out.2 1 (.int .i64 z) rfl).1; have r2 := (HR5.out.2 0 (.int .i64 z) rfl).2; have r3 := (HR5.out.2 1 (.int .i64 z) rfl).2
      gi_wp2
      have hn6 := nearW V5 (w.heap.size + 1) (.int .i64 z) (.int .i64 z)
      refine ⟨HQ5.out.trans (hn6.mono (fun i _ h => .inl h)), HN5.out.trans' hn6 (fun i h1 h2 => by omega), HX5.out.far hn6 (by omega), ?_, ?_⟩
      · rw [HSN.out]; simp only [bndStep, bndQ, HZG.out]; exact (HR5.out.setRng (r := ⟨z, z⟩) (q := ⟨z, z⟩))
      · rw [HSN.out]; exact HB5.out.far hn6 (by omega)
    | some q =>
      have b0 := (HB3.out.2 0 (.bool true) rfl).1
      have HX4 := HX3; have HR4 : Hid (BoxIs (w.heap.size + 1) #[.int .i64 q.lo, .int .i64 q.hi] V3) := HR3; have HB4 := HB3; have HN4 := HN3; have HQ4 := HQ3
      clear HX3 HR3 HB3 HN3 HQ3
      have r0 := (HR4.out.2 0 (.int .i64 q.lo) rfl).1; have r1 := (HR4.out.2 1 (.int .i64 q.hi) rfl).1
      gi_wp2
      refine ⟨trivial, ?_⟩
      gi_at_call 116
      refine (CallsIn.inRound _ (callsIn_wide.2 (wider_any q z _))).mono ?_
      rintro e V5 ⟨rfl, hb5⟩
      have HX5 := hid (HX4.out.below hb5); have HR5 := hid (HR4.out.below hb5); have HB5 := hid (HB4.out.below hb5); have HN5 := hid (HN4.out.trans (near_below hb5)); have HQ5 := hid (HQ4.out.trans (near_below hb5))
      clear hb5 r0 r1 HX4 HR4 HB4 HN4 HQ4
      have r0 := (HR5.out.2 0 (.int .i64 q.lo) rfl).1; have r1 := (HR5.out.2 1 (.int .i64 q.hi) rfl).1; have r2 := (HR5.out.2 0 (.int .i64 q.lo) rfl).2; have r3 := (HR5.out.2 1 (.int .i64 q.hi) rfl).2
      gi_wp2
      have hn6 := nearW V5 (w.heap.size + 1) (.int .i64 (widerR q z).lo) (.int .i64 (widerR q z).hi)
      refine ⟨HQ5.out.trans (hn6.mono (fun i _ h => .inl h)), HN5.out.trans' hn6 (fun i h1 h2 => by omega), HX5.out.far hn6 (by omega), ?_, ?_⟩
      · rw [HSN.out]; simp only [bndStep, bndQ, HZG.out]; exact HR5.out.setRng
      · rw [HSN.out]; exact HB5.out.far hn6 (by omega)
  case done =>
    rintro V ⟨hn, hx, hr, hb⟩ hT hK hsz
    obtain ⟨o, ho⟩ : ∃ o, bndO g (truO p th []) = o := ⟨_, rfl⟩
    rw [ho] at hr hb
    have HR := hid hr; have HB := hid hb; have HN := hid hn; have HTT := hid hT; have HKK := hid hK; have HOO := hid ho
    clear hr hb hn hT hK hsz hx ho
    obtain ⟨L, hL⟩ : ∃ z, (bndQ o).lo = z := ⟨_, rfl⟩
    obtain ⟨H, hH⟩ : ∃ z, (bndQ o).hi = z := ⟨_, rfl⟩
    obtain ⟨B, hB⟩ : ∃ z, o.isSome = z := ⟨_, rfl⟩
    have HL := hid hL; have HH := hid hH; have HBB := hid hB
    rw [hL, hH] at HR
    rw [hB] at HB
    clear hL hH hB
    gi_wp2
    refine wpIn_tame ?_
    refine wpIn_region_anyS (S := fun V => BoxIs (w.heap.size + 1) #[.int .i64 L, .int .i64 H] V ∧ BoxIs (w.heap.size + 2) #[.bool B] V ∧ Near (fun k => k = bm) w V ∧ WkS V p lp ln lc tp tn tc rp rn rc th bw bm (nn + 6000) ∧ V.heap[W2.heap.size]? = some (.deferred (some []))) (by kernel_rfl) ⟨HR.out.below (Below.refl _ _).drew, HB.out.below (Below.refl _ _).drew, HN.out.drew, HTT.out.below HM.out (Below.refl _ _).drew, HKK.out⟩ (fun hS => ?_)
    obtain ⟨U0, hU0⟩ : ∃ U, V.drew = U := ⟨_, rfl⟩
    rw [hU0] at hS ⊢
    clear hU0
    simp only [List.size_toArray, List.length_cons, List.length_nil, Nat.reduceAdd, Array.replicate_succ, Array.replicate_zero, List.push_toArray, List.nil_append, List.cons_append]
    refine anyS_take (i := 0) (v := ?_) rfl rfl (by kernel_rfl) (by kernel_rfl) (by kernel_rfl) (nq_panic _ _) (Or.inl ⟨by rfl, fun V hV => ?_⟩) (fun _ => rfl) (by assumption) ?_
    rotate_left
    · have e0 := (hV.1.2 0 (.int .i64 L) rfl).1; have e1 := (hV.1.2 1 (.int .i64 H) rfl).1; go_simp
      try with_reducible rfl
    try simp only [Act.put, List.getElem_toArray, List.getElem_cons_zero, List.setIfInBounds_toArray, List.set_cons_zero, List.set_cons_succ]
    refine anyS_take (i := 1) (v := ?_) rfl rfl (by kernel_rfl) (by kernel_rfl) (by kernel_rfl) (nq_panic _ _) (Or.inl ⟨by rfl, fun V hV => ?_⟩) (fun _ => rfl) (by assumption) ?_
    rotate_left
    · have e0 := (hV.2.1.2 0 (.bool B) rfl).1; go_simp
      try with_reducible rfl
    try simp only [Act.put, List.getElem_toArray, List.getElem_cons_zero, List.getElem_cons_succ, List.setIfInBounds_toArray, List.set_cons_zero, List.set_cons_succ]
    refine anyS_one (i := 2) (by kernel_rfl) rfl (fun K hK => ?_)
    have k0 := (hS.1.2 0 (.int .i64 L) rfl).1; have k1 := (hS.1.2 1 (.int .i64 H) rfl).1; have k2 := (hS.1.2 0 (.int .i64 L) rfl).2; have k3 := (hS.1.2 1 (.int .i64 H) rfl).2
    go_simp
    have hz2 := HZ2.out
    have hn6 := fun V : World => nearW V (w.heap.size + 1) (.int .i64 L) (.int .i64 H)
    have hs6 := fun (U : World) (h : BoxIs (w.heap.size + 1) #[.int .i64 L, .int .i64 H] U) => (show BoxIs (w.heap.size + 1) #[.int .i64 L, .int .i64 H] ((U.setCell ⟨w.heap.size + 1, 0, none⟩ (.int .i64 L)).setCell ⟨w.heap.size + 1, 1, none⟩ (.int .i64 H)) from h.setRng (r := ⟨L, H⟩) (q := ⟨L, H⟩))
    refine hK.out _ _ ⟨hs6 _ hS.1, hS.2.1.far (hn6 _) (by omega), hS.2.2.1.trans' (hn6 _) (fun i h1 h2 => by omega), hS.2.2.2.1.near HM.out (hn6 _) (fun i hi hi2 => by have := HWK.out.rd hi; omega), ((hn6 _).block _ (Array.getElem?_eq_some_iff.1 hS.2.2.2.2).1 (by omega)).trans hS.2.2.2.2⟩ (fun hS => ?_)
    clear hK K k0 k1 k2 k3 hz2 hn6 hs6
    try simp only [List.setIfInBounds_toArray, List.set_cons_zero, List.set_cons_succ]
    refine anyS_one (i := 3) (by kernel_rfl) rfl (fun K hK => ?_)
    have k0 := (hS.2.1.2 0 (.bool B) rfl).1; have k1 := (hS.2.1.2 0 (.bool B) rfl).2
    go_simp
    have hz2 := HZ2.out
    have hn6 := fun V : World => near_one (S := fun i => i = w.heap.size + 2) (W := V) (o := 0) rfl (.bool B)
    refine hK.out _ _ ⟨hS.1.far (hn6 _) (by omega), hS.2.1.put (j := 0) (.bool B), hS.2.2.1.trans' (hn6 _) (fun i h1 h2 => by omega), hS.2.2.2.1.near HM.out (hn6 _) (fun i hi hi2 => by have := HWK.out.rd hi; omega), ((hn6 _).block _ (Array.getElem?_eq_some_iff.1 hS.2.2.2.2).1 (by omega)).trans hS.2.2.2.2⟩ (fun hS => ?_)
    clear hK K k0 k1 hn6
    try simp only [List.setIfInBounds_toArray, List.set_cons_zero, List.set_cons_succ]
    refine anyS_done (by kernel_rfl) ⟨rfl, ?_⟩ _
    gi_wp2
    refine ⟨by simp, .inl ⟨_, _, rfl, run_takeDeferred hS.2.2.2.2, ?_⟩⟩
    have hn9 := fun V : World => Near.putObj (w := V) W2.heap.size (.deferred none)
    have q0 := ((hS.1.far (hn9 _) (by omega)).2 0 (.int .i64 L) rfl).1; have q1 := ((hS.1.far (hn9 _) (by omega)).2 1 (.int .i64 H) rfl).1; have q2 := ((hS.2.1.far (hn9 _) (by omega)).2 0 (.bool B) rfl).1
    refine ⟨.tuple #[.agg #[.int .i64 L, .int .i64 H], .bool B], by simp [results, Try.f80, go_sem, q0, q1, q2], ?_, hS.2.2.2.1.near HM.out (hn9 _) (fun i hi hi2 => by have := HWK.out.rd hi; omega), hS.2.2.1.trans' (hn9 _) (fun i h1 h2 => by omega)⟩
    rw [HOO.out, HL.out, HH.out, HBB.out]
  case stop =>
    rintro pre rest V hall hx hT hK hsz
    exact hx.elim

set_option maxRecDepth 100000 in
set_option maxHeartbeats 8000000 in
theorem bounds81_any (g : (Nat → Int) × Int → Int) (bi : Nat) (p : Prg) (lp : Option Addr) (ln lc : Nat) (tp : Option Addr) (tn tc : Nat) (rp : Option Addr) (rn rc : Nat) (th : Nat → Bool) (bw bm nn : Nat) (w : World) (ok : OkP p) (hw : WkS w p lp ln lc tp tn tc rp rn rc th bw bm nn) (hM : NotM bm lp ln tp tn rp rn) (hnn : nn + 6000 < maxLen)
    (hof : ∀ V f kp, Near (fun k => k = bm) w V → (∀ i, 0 ≤ f i ∧ f i ≤ 100000) → Calls Try.prog 81 #[.agg #[.int .i64 (f 0), .int .i64 (f 1), .int .i64 (f 2), .int .i64 (f 3), .int .i64 (f 4), .int .i64 kp], .pointer (some ⟨bi, 0, none⟩)] V fun e V' => e = .returned (.int .i64 (g (f, kp))) ∧ Below V.heap.size V V') :
    Calls Try.prog 80 #[.pointer (some ⟨bw, 0, none⟩), .func (.func 81) #[] #[.pointer (some ⟨bi, 0, none⟩)]] w (WkPost p lp ln lc tp tn tc rp rn rc th bw bm nn w (.tuple #[.agg #[.int .i64 (bndQ (bndO g (truO p th []))).lo, .int .i64 (bndQ (bndO g (truO p th []))).hi], .bool (bndO g (truO p th [])).isSome])) := by
  have HWK := hid hw; have HM := hid hM; have HOK := hid ok; have HOF := hid hof
  have hbm := hw.bmlt
  have hbw := hw.box.1
  obtain ⟨W0, hW0⟩ : ∃ V, (((w.alloc (.cells #[.func (.func 81) #[] #[.pointer (some ⟨bi, 0, none⟩)]] 134)).alloc (.cells #[.int .i64 0, .int .i64 0] 51)).alloc (.cells #[.bool false] 4)) = V := ⟨_, rfl⟩
  have HB0 : Hid (Below w.heap.size w W0) := hid (by rw [← hW0]; exact ((((Below.refl _ _).alloc (by simp; try omega) _).alloc (by simp; try omega) _).alloc (by simp; try omega) _))
  have HZ0 : Hid (W0.heap.size = w.heap.size + 3) := hid (by rw [← hW0]; simp)
  have HX0 : Hid (BoxIs (w.heap.size + 0) #[.func (.func 81) #[] #[.pointer (some ⟨bi, 0, none⟩)]] W0) := hid (by
      have h := BoxIs.start w #[.func (.func 81) #[] #[.pointer (some ⟨bi, 0, none⟩)]] 134
      try simp only [World.size_alloc, Nat.add_assoc, Nat.reduceAdd] at h
      rw [← hW0]
      exact ((h.below ((Below.refl _ _).alloc (Nat.le_refl _) _)).below ((Below.refl _ _).alloc (Nat.le_refl _) _)))
  have HX1 : Hid (BoxIs (w.heap.size + 1) #[.int .i64 0, .int .i64 0] W0) := hid (by
      have h := BoxIs.start (w.alloc (.cells #[.func (.func 81) #[] #[.pointer (some ⟨bi, 0, none⟩)]] 134)) #[.int .i64 0, .int .i64 0] 51
      try simp only [World.size_alloc] at h
      rw [← hW0]
      exact (h.below ((Below.refl _ _).alloc (Nat.le_refl _) _)))
  have HX2 : Hid (BoxIs (w.heap.size + 2) #[.bool false] W0) := hid (by
      have h := BoxIs.start ((w.alloc (.cells #[.func (.func 81) #[] #[.pointer (some ⟨bi, 0, none⟩)]] 134)).alloc (.cells #[.int .i64 0, .int .i64 0] 51)) #[.bool false] 4
      try simp only [World.size_alloc, Nat.add_assoc, Nat.reduceAdd] at h
      rw [← hW0]
      exact h)
  have HO : Hid (¬ InS none 0 bm) := hid (by rintro ⟨a, h, _⟩; cases h)
  clear hw hM ok hof
  obtain ⟨W1, hW1⟩ : ∃ V, W0.alloc (.cells #[.pointer (some ⟨bw, 0, none⟩)] 119) = V := ⟨_, rfl⟩
  obtain ⟨W2, hW2⟩ : ∃ V, W1.alloc (.cells #[.slice none 0 0] 27) = V := ⟨_, rfl⟩
  have hb1 : Below W0.heap.size W0 W1 := by rw [← hW1]; exact (Below.refl _ _).alloc (Nat.le_refl _) _
  have hb2 : Below W1.heap.size W1 W2 := by rw [← hW2]; exact (Below.refl _ _).alloc (Nat.le_refl _) _
  have hz1 : W1.heap.size = W0.heap.size + 1 := by rw [← hW1]; simp
  have hz2 : W2.heap.size = W0.heap.size + 2 := by rw [← hW2]; simp; omega
  have hz0 := HZ0.out
  have HB2 : Hid (Below w.heap.size w W2) := hid ((HB0.out.trans (hb1.mono (by omega))).trans (hb2.mono (by omega)))
  have HY0 := hid ((HX0.out.below hb1).below hb2)
  have HY1 := hid ((HX1.out.below hb1).below hb2)
  have HY2 := hid ((HX2.out.below hb1).below hb2)
  have hq1 : W1.cell? ⟨w.heap.size + 3, 0, none⟩ = some (.pointer (some ⟨bw, 0, none⟩)) := by have h := cell_box W0 #[.pointer (some ⟨bw, 0, none⟩)] 119 0 _ rfl; rw [hW1, hz0] at h; exact h
  have HSRC : Hid (SrcT W2 p lp ln lc tp tn tc rp rn rc th bw bm nn (w.heap.size + 3) (w.heap.size + 4) none 0 0 []) := hid ⟨HWK.out.near HM.out (near_below (S := fun _ => False) (HB2.out.mono (Nat.le_refl _))) (fun _ _ h => h), (hb2.cell (p := ⟨w.heap.size + 3, 0, none⟩) (show w.heap.size + 3 < W1.heap.size by omega)).trans hq1, (by have h := cell_box W1 #[.slice none 0 0] 27 0 _ rfl; rw [hW2, hz1, hz0] at h; exact h), ints_nil _⟩
  clear hq1 hb1 hb2
  have HG := hid (truths_gives p lp ln lc tp tn tc rp rn rc th bw bm nn (w.heap.size + 3) (w.heap.size + 4) none 0 0 [] W2 21 HOK.out HSRC.out HM.out HO.out hnn (by omega))
  have HZ2 : Hid (W2.heap.size = w.heap.size + 5) := hid (by omega)
  have HRD : Hid (∀ i, RdT bw bm (w.heap.size + 3) (w.heap.size + 4) lp ln tp tn rp rn none 0 i → i < w.heap.size ∨ i = w.heap.size + 3 ∨ i = w.heap.size + 4) := hid (fun i hi => lt_of_rdT HWK.out (ints_nil _) hi)
  refine (callsIn_wide (n := 22)).1 ?_
  refine callsIn_of_wp_marks Try.func80 rfl trivial ?_ rfl
  simp only [Try.ntmps80, List.size_toArray, List.length_cons, List.length_nil, Nat.reduceAdd, Nat.reduceSub, Array.replicate_succ, Array.replicate_zero, List.push_toArray, List.append_toArray, List.nil_append, List.cons_append]
  clear hz0 hz1 hz2
  gi_wp2
  refine ⟨trivial, ?_⟩
  gi_at_call 93
  refine (callsIn_wide.2 (truths_any _ _ _ _ _)).mono ?_
  rintro e w5 ⟨rfl, rfl⟩
  rw [hW1, hW2, HZ0.out]
  clear hW0 hW1 hW2
  simp only [Nat.add_assoc, Nat.reduceAdd]
  gi_wp2
  refine wpIn_rangeFunc_near6 rfl (by omega) (gf := 119) (lb := #[.pointer (some ⟨w.heap.size + 3, 0, none⟩), .pointer (some ⟨w.heap.size + 4, 0, none⟩)]) rfl trivial (enters_of Try.func119 (by kernel_rfl) rfl) HG.out (fun V1 V2 h hn => h.near HM.out hn (fun i hi hi2 => by have := HWK.out.rd hi; have := HZ2.out; omega)) (Below.refl _ _)
    (fun i hi => by have h1 := HRD.out i hi; have h2 := HZ2.out; omega) (fun i hi => by have := HZ2.out; omega) (fun i => i = w.heap.size + 1 ∨ i = w.heap.size + 2) (fun i hi => ⟨by have := HZ2.out; omega, fun h => by have h1 := HRD.out i h; omega⟩)
    (fun pre V => Near (fun k => k = bm) w V ∧ BoxIs (w.heap.size + 0) #[.func (.func 81) #[] #[.pointer (some ⟨bi, 0, none⟩)]] V ∧ BoxIs (w.heap.size + 1) #[.int .i64 (bndQ (bndO g pre)).lo, .int .i64 (bndQ (bndO g pre)).hi] V ∧ BoxIs (w.heap.size + 2) #[.bool (bndO g pre).isSome] V)
    (fun pre V => False)
    (fun pre V1 V2 h hn => ⟨h.1.trans' hn (fun i h1 h2 => by have := HZ2.out; omega), h.2.1.far hn (by have := HZ2.out; omega), h.2.2.1.far hn (by have := HZ2.out; omega), h.2.2.2.far hn (by have := HZ2.out; omega)⟩)
    (fun pre V1 V2 h hn => h)
    ⟨near_below HB2.out, HY0.out, HY1.out, HY2.out⟩ ?round ?done ?stop
  case round =>
    rintro pre x rest V v hall hsz hE ⟨hn, hx, hr, hb⟩
    obtain ⟨f, kp⟩ := x
    have hE2 : v = .agg (resC f kp) := hE
    subst hE2
    have HPB : Hid (∀ i, 0 ≤ f i ∧ f i ≤ 100000) := hid (fun i => by
      have hmem : (f, kp) ∈ truO p th [] := by rw [hall]; simp
      obtain ⟨l, hl, e, _⟩ := mem_truO.1 hmem
      have h9 := pay_bd HOK.out th hl i
      rw [e] at h9
      simp only at h9
      omega)
    have HX := hid hx; have HN := hid hn; have HR := hid hr; have HB := hid hb; have HSZ := hid hsz
    clear hx hn hE hall hsz hr hb
    unfold resC
    gi_wp2
    refine ⟨(Near.refl _ _).alloc _, fun V2 hn2 => ?_⟩
    have hn3 : Near (fun k => k = W2.heap.size + 1) V V2 := ((Near.refl _ _).alloc _).trans hn2
    have HF2 : Hid (BoxIs V.heap.size #[.int .i64 (f 0), .int .i64 (f 1), .int .i64 (f 2), .int .i64 (f 3), .int .i64 (f 4), .int .i64 kp] V2) := hid ((BoxIs.start V #[.int .i64 (f 0), .int .i64 (f 1), .int .i64 (f 2), .int .i64 (f 3), .int .i64 (f 4), .int .i64 kp] 118).far hn2 (by have := HSZ.out; omega))
    have HN2 := hid (HN.out.trans' hn3 (fun i h1 h2 => by have := HZ2.out; omega))
    have HX2 := hid (HX.out.far hn3 (by have := HZ2.out; omega))
    have HR2 := hid (HR.out.far hn3 (by have := HZ2.out; omega))
    have HB2 := hid (HB.out.far hn3 (by have := HZ2.out; omega))
    have HZV : Hid (w.heap.size + 5 ≤ V.heap.size) := hid (by have := HSZ.out; have := HZ2.out; omega)
    have HSN : Hid (bndO g (pre ++ [(f, kp)]) = bndStep g (bndO g pre) (f, kp)) := hid (bndO_snoc g pre (f, kp))
    clear hn2 hn3 HN HX HR HB
    have x0 := (HX2.out.2 0 (.func (.func 81) #[] #[.pointer (some ⟨bi, 0, none⟩)]) rfl).1
    simp only [Nat.add_zero] at x0
    have y0 := (HF2.out.2 0 (.int .i64 (f 0)) rfl).1; have y1 := (HF2.out.2 1 (.int .i64 (f 1)) rfl).1; have y2 := (HF2.out.2 2 (.int .i64 (f 2)) rfl).1; have y3 := (HF2.out.2 3 (.int .i64 (f 3)) rfl).1; have y4 := (HF2.out.2 4 (.int .i64 (f 4)) rfl).1; have y5 := (HF2.out.2 5 (.int .i64 kp) rfl).1
    gi_wp2
    refine ⟨trivial, ?_⟩
    gi_at_call 81
    refine (CallsIn.inRound _ (callsIn_wide.2 (HOF.out V2 f kp HN2.out HPB.out))).mono ?_
    rintro e V3 ⟨rfl, hb3⟩
    have HX3 := hid (HX2.out.below hb3); have HR3 := hid (HR2.out.below hb3); have HB3 := hid (HB2.out.below hb3); have HN3 := hid (HN2.out.trans (near_below hb3)); have HQ3 : Hid (Near (fun i => i = w.heap.size + 1 ∨ i = w.heap.size + 2) V2 V3) := hid (near_below hb3)
    clear hb3 x0 y0 y1 y2 y3 y4 y5 HX2 HR2 HB2 HN2 HF2
    obtain ⟨z, hz⟩ : ∃ z, g (f, kp) = z := ⟨_, rfl⟩
    have HZG := hid hz
    rw [hz]
    clear hz
    obtain ⟨o, ho⟩ : ∃ o, bndO g pre = o := ⟨_, rfl⟩
    rw [ho] at HR3 HB3 HSN
    clear ho
    cases o with
    | none =>
      have r0 := (HR3.out.2 0 (.int .i64 0) rfl).1; have r1 := (HR3.out.2 1 (.int .i64 0) rfl).1; have r2 := (HR3.out.2 0 (.int .i64 0) rfl).2; have r3 := (HR3.out.2 1 (.int .i64 0) rfl).2
      have b0 := (HB3.out.2 0 (.bool false) rfl).1; have b1 := (HB3.out.2 0 (.bool false) rfl).2
      obtain ⟨V4, hV4⟩ : ∃ U, ((V3.setCell ⟨w.heap.size + 1, 0, none⟩ (.int .i64 z)).setCell ⟨w.heap.size + 1, 1, none⟩ (.int .i64 z)).setCell ⟨w.heap.size + 2, 0, none⟩ (.bool true) = U := ⟨_, rfl⟩
      have hn4 : Near (fun i => i = w.heap.size + 1 ∨ i = w.heap.size + 2) V3 V4 := by rw [← hV4]; exact ((nearW V3 (w.heap.size + 1) _ _).mono (fun i _ h => .inl h)).setCell (p := ⟨w.heap.size + 2, 0, none⟩) (fun _ => .inr rfl) _
      have HR4 : Hid (BoxIs (w.heap.size + 1) #[.int .i64 z, .int .i64 z] V4) := hid (by rw [← hV4]; exact ((HR3.out.setRng (r := ⟨0, 0⟩) (q := ⟨z, z⟩))).other (by omega) _)
      have HB4 : Hid (BoxIs (w.heap.size + 2) #[.bool true] V4) := hid (by rw [← hV4]; exact ((HB3.out.other (by omega) _).other (by omega) _).put (j := 0) (.bool true))
      have HX4 := hid (HX3.out.far hn4 (by omega)); have HN4 := hid (HN3.out.trans' hn4 (fun i h1 h2 => by omega)); have HQ4 := hid (HQ3.out.trans hn4)
      clear hn4 HX3 HR3 HB3 HN3 HQ3
      have r0 := (HR4.out.2 0 (.int .i64 z) rfl).1; have r1 := (HR4.out.2 1 (.int .i64 z) rfl).1
      gi_wp2
      refine ⟨trivial, ?_⟩
      gi_at_call 116
      refine (CallsIn.inRound _ (callsIn_wide.2 (wider_any ⟨z, z⟩ z _))).mono ?_
      rintro e V5 ⟨rfl, hb5⟩
      have HX5 := hid (HX4.out.below hb5); have HR5 := hid (HR4.out.below hb5); have HB5 := hid (HB4.out.below hb5); have HN5 := hid (HN4.out.trans (near_below hb5)); have HQ5 := hid (HQ4.out.trans (near_below hb5))
      clear hb5 r0 r1 HX4 HR4 HB4 HN4 HQ4
      rw [wider_self]
      have r0 := (HR5.out.2 0 (.int .i64 z) rfl).1; have r1 := (HR5.out.2 1 (.int .i64 z) rfl).1; have r2 := (HR5.out.2 0 (.int .i64 z) rfl).2; have r3 := (HR5.out.2 1 (.int .i64 z) rfl).2
      gi_wp2
      have hn6 := nearW V5 (w.heap.size + 1) (.int .i64 z) (.int .i64 z)
      refine ⟨HQ5.out.trans (hn6.mono (fun i _ h => .inl h)), HN5.out.trans' hn6 (fun i h1 h2 => by omega), HX5.out.far hn6 (by omega), ?_, ?_⟩
      · rw [HSN.out]; simp only [bndStep, bndQ, HZG.out]; exact (HR5.out.setRng (r := ⟨z, z⟩) (q := ⟨z, z⟩))
      · rw [HSN.out]; exact HB5.out.far hn6 (by omega)
    | some q =>
      have b0 := (HB3.out.2 0 (.bool true) rfl).1
      have HX4 := HX3; have HR4 : Hid (BoxIs (w.heap.size + 1) #[.int .i64 q.lo, .int .i64 q.hi] V3) := HR3; have HB4 := HB3; have HN4 := HN3; have HQ4 := HQ3
      clear HX3 HR3 HB3 HN3 HQ3
      have r0 := (HR4.out.2 0 (.int .i64 q.lo) rfl).1; have r1 := (HR4.out.2 1 (.int .i64 q.hi) rfl).1
      gi_wp2
      refine ⟨trivial, ?_⟩
      gi_at_call 116
      refine (CallsIn.inRound _ (callsIn_wide.2 (wider_any q z _))).mono ?_
      rintro e V5 ⟨rfl, hb5⟩
      have HX5 := hid (HX4.out.below hb5); have HR5 := hid (HR4.out.below hb5); have HB5 := hid (HB4.out.below hb5); have HN5 := hid (HN4.out.trans (near_below hb5)); have HQ5 := hid (HQ4.out.trans (near_below hb5))
      clear hb5 r0 r1 HX4 HR4 HB4 HN4 HQ4
      have r0 := (HR5.out.2 0 (.int .i64 q.lo) rfl).1; have r1 := (HR5.out.2 1 (.int .i64 q.hi) rfl).1; have r2 := (HR5.out.2 0 (.int .i64 q.lo) rfl).2; have r3 := (HR5.out.2 1 (.int .i64 q.hi) rfl).2
      gi_wp2
      have hn6 := nearW V5 (w.heap.size + 1) (.int .i64 (widerR q z).lo) (.int .i64 (widerR q z).hi)
      refine ⟨HQ5.out.trans (hn6.mono (fun i _ h => .inl h)), HN5.out.trans' hn6 (fun i h1 h2 => by omega), HX5.out.far hn6 (by omega), ?_, ?_⟩
      · rw [HSN.out]; simp only [bndStep, bndQ, HZG.out]; exact HR5.out.setRng
      · rw [HSN.out]; exact HB5.out.far hn6 (by omega)
  case done =>
    rintro V ⟨hn, hx, hr, hb⟩ hT hK hsz
    obtain ⟨o, ho⟩ : ∃ o, bndO g (truO p th []) = o := ⟨_, rfl⟩
    rw [ho] at hr hb
    have HR := hid hr; have HB := hid hb; have HN := hid hn; have HTT := hid hT; have HKK := hid hK; have HOO := hid ho
    clear hr hb hn hT hK hsz hx ho
    obtain ⟨L, hL⟩ : ∃ z, (bndQ o).lo = z := ⟨_, rfl⟩
    obtain ⟨H, hH⟩ : ∃ z, (bndQ o).hi = z := ⟨_, rfl⟩
    obtain ⟨B, hB⟩ : ∃ z, o.isSome = z := ⟨_, rfl⟩
    have HL := hid hL; have HH := hid hH; have HBB := hid hB
    rw [hL, hH] at HR
    rw [hB] at HB
    clear hL hH hB
    gi_wp2
    refine wpIn_tame ?_
    refine wpIn_region_anyS (S := fun V => BoxIs (w.heap.size + 1) #[.int .i64 L, .int .i64 H] V ∧ BoxIs (w.heap.size + 2) #[.bool B] V ∧ Near (fun k => k = bm) w V ∧ WkS V p lp ln lc tp tn tc rp rn rc th bw bm (nn + 6000) ∧ V.heap[W2.heap.size]? = some (.deferred (some []))) (by kernel_rfl) ⟨HR.out.below (Below.refl _ _).drew, HB.out.below (Below.refl _ _).drew, HN.out.drew, HTT.out.below HM.out (Below.refl _ _).drew, HKK.out⟩ (fun hS => ?_)
    obtain ⟨U0, hU0⟩ : ∃ U, V.drew = U := ⟨_, rfl⟩
    rw [hU0] at hS ⊢
    clear hU0
    simp only [List.size_toArray, List.length_cons, List.length_nil, Nat.reduceAdd, Array.replicate_succ, Array.replicate_zero, List.push_toArray, List.nil_append, List.cons_append]
    refine anyS_take (i := 0) (v := ?_) rfl rfl (by kernel_rfl) (by kernel_rfl) (by kernel_rfl) (nq_panic _ _) (Or.inl ⟨by rfl, fun V hV => ?_⟩) (fun _ => rfl) (by assumption) ?_
    rotate_left
    · have e0 := (hV.1.2 0 (.int .i64 L) rfl).1; have e1 := (hV.1.2 1 (.int .i64 H) rfl).1; go_simp
      try with_reducible rfl
    try simp only [Act.put, List.getElem_toArray, List.getElem_cons_zero, List.setIfInBounds_toArray, List.set_cons_zero, List.set_cons_succ]
    refine anyS_take (i := 1) (v := ?_) rfl rfl (by kernel_rfl) (by kernel_rfl) (by kernel_rfl) (nq_panic _ _) (Or.inl ⟨by rfl, fun V hV => ?_⟩) (fun _ => rfl) (by assumption) ?_
    rotate_left
    · have e0 := (hV.2.1.2 0 (.bool B) rfl).1; go_simp
      try with_reducible rfl
    try simp only [Act.put, List.getElem_toArray, List.getElem_cons_zero, List.getElem_cons_succ, List.setIfInBounds_toArray, List.set_cons_zero, List.set_cons_succ]
    refine anyS_one (i := 2) (by kernel_rfl) rfl (fun K hK => ?_)
    have k0 := (hS.1.2 0 (.int .i64 L) rfl).1; have k1 := (hS.1.2 1 (.int .i64 H) rfl).1; have k2 := (hS.1.2 0 (.int .i64 L) rfl).2; have k3 := (hS.1.2 1 (.int .i64 H) rfl).2
    go_simp
    have hz2 := HZ2.out
    have hn6 := fun V : World => nearW V (w.heap.size + 1) (.int .i64 L) (.int .i64 H)
    have hs6 := fun (U : World) (h : BoxIs (w.heap.size + 1) #[.int .i64 L, .int .i64 H] U) => (show BoxIs (w.heap.size + 1) #[.int .i64 L, .int .i64 H] ((U.setCell ⟨w.heap.size + 1, 0, none⟩ (.int .i64 L)).setCell ⟨w.heap.size + 1, 1, none⟩ (.int .i64 H)) from h.setRng (r := ⟨L, H⟩) (q := ⟨L, H⟩))
    refine hK.out _ _ ⟨hs6 _ hS.1, hS.2.1.far (hn6 _) (by omega), hS.2.2.1.trans' (hn6 _) (fun i h1 h2 => by omega), hS.2.2.2.1.near HM.out (hn6 _) (fun i hi hi2 => by have := HWK.out.rd hi; omega), ((hn6 _).block _ (Array.getElem?_eq_some_iff.1 hS.2.2.2.2).1 (by omega)).trans hS.2.2.2.2⟩ (fun hS => ?_)
    clear hK K k0 k1 k2 k3 hz2 hn6 hs6
    try simp only [List.setIfInBounds_toArray, List.set_cons_zero, List.set_cons_succ]
    refine anyS_one (i := 3) (by kernel_rfl) rfl (fun K hK => ?_)
    have k0 := (hS.2.1.2 0 (.bool B) rfl).1; have k1 := (hS.2.1.2 0 (.bool B) rfl).2
    go_simp
    have hz2 := HZ2.out
    have hn6 := fun V : World => near_one (S := fun i => i = w.heap.size + 2) (W := V) (o := 0) rfl (.bool B)
    refine hK.out _ _ ⟨hS.1.far (hn6 _) (by omega), hS.2.1.put (j := 0) (.bool B), hS.2.2.1.trans' (hn6 _) (fun i h1 h2 => by omega), hS.2.2.2.1.near HM.out (hn6 _) (fun i hi hi2 => by have := HWK.out.rd hi; omega), ((hn6 _).block _ (Array.getElem?_eq_some_iff.1 hS.2.2.2.2).1 (by omega)).trans hS.2.2.2.2⟩ (fun hS => ?_)
    clear hK K k0 k1 hn6
    try simp only [List.setIfInBounds_toArray, List.set_cons_zero, List.set_cons_succ]
    refine anyS_done (by kernel_rfl) ⟨rfl, ?_⟩ _
    gi_wp2
    refine ⟨by simp, .inl ⟨_, _, rfl, run_takeDeferred hS.2.2.2.2, ?_⟩⟩
    have hn9 := fun V : World => Near.putObj (w := V) W2.heap.size (.deferred none)
    have q0 := ((hS.1.far (hn9 _) (by omega)).2 0 (.int .i64 L) rfl).1; have q1 := ((hS.1.far (hn9 _) (by omega)).2 1 (.int .i64 H) rfl).1; have q2 := ((hS.2.1.far (hn9 _) (by omega)).2 0 (.bool B) rfl).1
    refine ⟨.tuple #[.agg #[.int .i64 L, .int .i64 H], .bool B], by simp [results, Try.f80, go_sem, q0, q1, q2], ?_, hS.2.2.2.1.near HM.out (hn9 _) (fun i hi hi2 => by have := HWK.out.rd hi; omega), hS.2.2.1.trans' (hn9 _) (fun i h1 h2 => by omega)⟩
    rw [HOO.out, HL.out, HH.out, HBB.out]
  case stop =>
    rintro pre rest V hall hx hT hK hsz
    exact hx.elim

set_option maxRecDepth 100000 in
set_option maxHeartbeats 8000000 in
theorem bounds82_any (g : (Nat → Int) × Int → Int) (bx : Nat) (bi : Nat) (p : Prg) (lp : Option Addr) (ln lc : Nat) (tp : Option Addr) (tn tc : Nat) (rp : Option Addr) (rn rc : Nat) (th : Nat → Bool) (bw bm nn : Nat) (w : World) (ok : OkP p) (hw : WkS w p lp ln lc tp tn tc rp rn rc th bw bm nn) (hM : NotM bm lp ln tp tn rp rn) (hnn : nn + 6000 < maxLen)
    (hof : ∀ V f kp, Near (fun k => k = bm) w V → (∀ i, 0 ≤ f i ∧ f i ≤ 100000) → Calls Try.prog 82 #[.agg #[.int .i64 (f 0), .int .i64 (f 1), .int .i64 (f 2), .int .i64 (f 3), .int .i64 (f 4), .int .i64 kp], .pointer (some ⟨bx, 0, none⟩), .pointer (some ⟨bi, 0, none⟩)] V fun e V' => e = .returned (.int .i64 (g (f, kp))) ∧ Below V.heap.size V V') :
    Calls Try.prog 80 #[.pointer (some ⟨bw, 0, none⟩), .func (.func 82) #[] #[.pointer (some ⟨bx, 0, none⟩), .pointer (some ⟨bi, 0, none⟩)]] w (WkPost p lp ln lc tp tn tc rp rn rc th bw bm nn w (.tuple #[.agg #[.int .i64 (bndQ (bndO g (truO p th []))).lo, .int .i64 (bndQ (bndO g (truO p th []))).hi], .bool (bndO g (truO p th [])).isSome])) := by
  have HWK := hid hw; have HM := hid hM; have HOK := hid ok; have HOF := hid hof
  have hbm := hw.bmlt
  have hbw := hw.box.1
  obtain ⟨W0, hW0⟩ : ∃ V, (((w.alloc (.cells #[.func (.func 82) #[] #[.pointer (some ⟨bx, 0, none⟩), .pointer (some ⟨bi, 0, none⟩)]] 134)).alloc (.cells #[.int .i64 0, .int .i64 0] 51)).alloc (.cells #[.bool false] 4)) = V := ⟨_, rfl⟩
  have HB0 : Hid (Below w.heap.size w W0) := hid (by rw [← hW0]; exact ((((Below.refl _ _).alloc (by simp; try omega) _).alloc (by simp; try omega) _).alloc (by simp; try omega) _))
  have HZ0 : Hid (W0.heap.size = w.heap.size + 3) := hid (by rw [← hW0]; simp)
  have HX0 : Hid (BoxIs (w.heap.size + 0) #[.func (.func 82) #[] #[.pointer (some ⟨bx, 0, none⟩), .pointer (some ⟨bi, 0, none⟩)]] W0) := hid (by
      have h := BoxIs.start w #[.func (.func 82) #[] #[.pointer (some ⟨bx, 0, none⟩), .pointer (some ⟨bi, 0, none⟩)]] 134
      try simp only [World.size_alloc, Nat.add_assoc, Nat.reduceAdd] at h
      rw [← hW0]
      exact ((h.below ((Below.refl _ _).alloc (Nat.le_refl _) _)).below ((Below.refl _ _).alloc (Nat.le_refl _) _)))
  have HX1 : Hid (BoxIs (w.heap.size + 1) #[.int .i64 0, .int .i64 0] W0) := hid (by
      have h := BoxIs.start (w.alloc (.cells #[.func (.func 82) #[] #[.pointer (some ⟨bx, 0, none⟩), .pointer (some ⟨bi, 0, none⟩)]] 134)) #[.int .i64 0, .int .i64 0] 51
      try simp only [World.size_alloc] at h
      rw [← hW0]
      exact (h.below ((Below.refl _ _).alloc (Nat.le_refl _) _)))
  have HX2 : Hid (BoxIs (w.heap.size + 2) #[.bool false] W0) := hid (by
      have h := BoxIs.start ((w.alloc (.cells #[.func (.func 82) #[] #[.pointer (some ⟨bx, 0, none⟩), .pointer (some ⟨bi, 0, none⟩)]] 134)).alloc (.cells #[.int .i64 0, .int .i64 0] 51)) #[.bool false] 4
      try simp only [World.size_alloc, Nat.add_assoc, Nat.reduceAdd] at h
      rw [← hW0]
      exact h)
  have HO : Hid (¬ InS none 0 bm) := hid (by rintro ⟨a, h, _⟩; cases h)
  clear hw hM ok hof
  obtain ⟨W1, hW1⟩ : ∃ V, W0.alloc (.cells #[.pointer (some ⟨bw, 0, none⟩)] 119) = V := ⟨_, rfl⟩
  obtain ⟨W2, hW2⟩ : ∃ V, W1.alloc (.cells #[.slice none 0 0] 27) = V := ⟨_, rfl⟩
  have hb1 : Below W0.heap.size W0 W1 := by rw [← hW1]; exact (Below.refl _ _).alloc (Nat.le_refl _) _
  have hb2 : Below W1.heap.size W1 W2 := by rw [← hW2]; exact (Below.refl _ _).alloc (Nat.le_refl _) _
  have hz1 : W1.heap.size = W0.heap.size + 1 := by rw [← hW1]; simp
  have hz2 : W2.heap.size = W0.heap.size + 2 := by rw [← hW2]; simp; omega
  have hz0 := HZ0.out
  have HB2 : Hid (Below w.heap.size w W2) := hid ((HB0.out.trans (hb1.mono (by omega))).trans (hb2.mono (by omega)))
  have HY0 := hid ((HX0.out.below hb1).below hb2)
  have HY1 := hid ((HX1.out.below hb1).below hb2)
  have HY2 := hid ((HX2.out.below hb1).below hb2)
  have hq1 : W1.cell? ⟨w.heap.size + 3, 0, none⟩ = some (.pointer (some ⟨bw, 0, none⟩)) := by have h := cell_box W0 #[.pointer (some ⟨bw, 0, none⟩)] 119 0 _ rfl; rw [hW1, hz0] at h; exact h
  have HSRC : Hid (SrcT W2 p lp ln lc tp tn tc rp rn rc th bw bm nn (w.heap.size + 3) (w.heap.size + 4) none 0 0 []) := hid ⟨HWK.out.near HM.out (near_below (S := fun _ => False) (HB2.out.mono (Nat.le_refl _))) (fun _ _ h => h), (hb2.cell (p := ⟨w.heap.size + 3, 0, none⟩) (show w.heap.size + 3 < W1.heap.size by omega)).trans hq1, (by have h := cell_box W1 #[.slice none 0 0] 27 0 _ rfl; rw [hW2, hz1, hz0] at h; exact h), ints_nil _⟩
  clear hq1 hb1 hb2
  have HG := hid (truths_gives p lp ln lc tp tn tc rp rn rc th bw bm nn (w.heap.size + 3) (w.heap.size + 4) none 0 0 [] W2 21 HOK.out HSRC.out HM.out HO.out hnn (by omega))
  have HZ2 : Hid (W2.heap.size = w.heap.size + 5) := hid (by omega)
  have HRD : Hid (∀ i, RdT bw bm (w.heap.size + 3) (w.heap.size + 4) lp ln tp tn rp rn none 0 i → i < w.heap.size ∨ i = w.heap.size + 3 ∨ i = w.heap.size + 4) := hid (fun i hi => lt_of_rdT HWK.out (ints_nil _) hi)
  refine (callsIn_wide (n := 22)).1 ?_
  refine callsIn_of_wp_marks Try.func80 rfl trivial ?_ rfl
  simp only [Try.ntmps80, List.size_toArray, List.length_cons, List.length_nil, Nat.reduceAdd, Nat.reduceSub, Array.replicate_succ, Array.replicate_zero, List.push_toArray, List.append_toArray, List.nil_append, List.cons_append]
  clear hz0 hz1 hz2
  gi_wp2
  refine ⟨trivial, ?_⟩
  gi_at_call 93
  refine (callsIn_wide.2 (truths_any _ _ _ _ _)).mono ?_
  rintro e w5 ⟨rfl, rfl⟩
  rw [hW1, hW2, HZ0.out]
  clear hW0 hW1 hW2
  simp only [Nat.add_assoc, Nat.reduceAdd]
  gi_wp2
  refine wpIn_rangeFunc_near6 rfl (by omega) (gf := 119) (lb := #[.pointer (some ⟨w.heap.size + 3, 0, none⟩), .pointer (some ⟨w.heap.size + 4, 0, none⟩)]) rfl trivial (enters_of Try.func119 (by kernel_rfl) rfl) HG.out (fun V1 V2 h hn => h.near HM.out hn (fun i hi hi2 => by have := HWK.out.rd hi; have := HZ2.out; omega)) (Below.refl _ _)
    (fun i hi => by have h1 := HRD.out i hi; have h2 := HZ2.out; omega) (fun i hi => by have := HZ2.out; omega) (fun i => i = w.heap.size + 1 ∨ i = w.heap.size + 2) (fun i hi => ⟨by have := HZ2.out; omega, fun h => by have h1 := HRD.out i h; omega⟩)
    (fun pre V => Near (fun k => k = bm) w V ∧ BoxIs (w.heap.size + 0) #[.func (.func 82) #[] #[.pointer (some ⟨bx, 0, none⟩), .pointer (some ⟨bi, 0, none⟩)]] V ∧ BoxIs (w.heap.size + 1) #[.int .i64 (bndQ (bndO g pre)).lo, .int .i64 (bndQ (bndO g pre)).hi] V ∧ BoxIs (w.heap.size + 2) #[.bool (bndO g pre).isSome] V)
    (fun pre V => False)
    (fun pre V1 V2 h hn => ⟨h.1.trans' hn (fun i h1 h2 => by have := HZ2.out; omega), h.2.1.far hn (by have := HZ2.out; omega), h.2.2.1.far hn (by have := HZ2.out; omega), h.2.2.2.far hn (by have := HZ2.out; omega)⟩)
    (fun pre V1 V2 h hn => h)
    ⟨near_below HB2.out, HY0.out, HY1.out, HY2.out⟩ ?round ?done ?stop
  case round =>
    rintro pre x rest V v hall hsz hE ⟨hn, hx, hr, hb⟩
    obtain ⟨f, kp⟩ := x
    have hE2 : v = .agg (resC f kp) := hE
    subst hE2
    have HPB : Hid (∀ i, 0 ≤ f i ∧ f i ≤ 100000) := hid (fun i => by
      have hmem : (f, kp) ∈ truO p th [] := by rw [hall]; simp
      obtain ⟨l, hl, e, _⟩ := mem_truO.1 hmem
      have h9 := pay_bd HOK.out th hl i
      rw [e] at h9
      simp only at h9
      omega)
    have HX := hid hx; have HN := hid hn; have HR := hid hr; have HB := hid hb; have HSZ := hid hsz
    clear hx hn hE hall hsz hr hb
    unfold resC
    gi_wp2
    refine ⟨(Near.refl _ _).alloc _, fun V2 hn2 => ?_⟩
    have hn3 : Near (fun k => k = W2.heap.size + 1) V V2 := ((Near.refl _ _).alloc _).trans hn2
    have HF2 : Hid (BoxIs V.heap.size #[.int .i64 (f 0), .int .i64 (f 1), .int .i64 (f 2), .int .i64 (f 3), .int .i64 (f 4), .int .i64 kp] V2) := hid ((BoxIs.start V #[.int .i64 (f 0), .int .i64 (f 1), .int .i64 (f 2), .int .i64 (f 3), .int .i64 (f 4), .int .i64 kp] 118).far hn2 (by have := HSZ.out; omega))
    have HN2 := hid (HN.out.trans' hn3 (fun i h1 h2 => by have := HZ2.out; omega))
    have HX2 := hid (HX.out.far hn3 (by have := HZ2.out; omega))
    have HR2 := hid (HR.out.far hn3 (by have := HZ2.out; omega))
    have HB2 := hid (HB.out.far hn3 (by have := HZ2.out; omega))
    have HZV : Hid (w.heap.size + 5 ≤ V.heap.size) := hid (by have := HSZ.out; have := HZ2.out; omega)
    have HSN : Hid (bndO g (pre ++ [(f, kp)]) = bndStep g (bndO g pre) (f, kp)) := hid (bndO_snoc g pre (f, kp))
    clear hn2 hn3 HN HX HR HB
    have x0 := (HX2.out.2 0 (.func (.func 82) #[] #[.pointer (some ⟨bx, 0, none⟩), .pointer (some ⟨bi, 0, none⟩)]) rfl).1
    simp only [Nat.add_zero] at x0
    have y0 := (HF2.out.2 0 (.int .i64 (f 0)) rfl).1; have y1 := (HF2.out.2 1 (.int .i64 (f 1)) rfl).1; have y2 := (HF2.out.2 2 (.int .i64 (f 2)) rfl).1; have y3 := (HF2.out.2 3 (.int .i64 (f 3)) rfl).1; have y4 := (HF2.out.2 4 (.int .i64 (f 4)) rfl).1; have y5 := (HF2.out.2 5 (.int .i64 kp) rfl).1
    gi_wp2
    refine ⟨trivial, ?_⟩
    gi_at_call 82
    refine (CallsIn.inRound _ (callsIn_wide.2 (HOF.out V2 f kp HN2.out HPB.out))).mono ?_
    rintro e V3 ⟨rfl, hb3⟩
    have HX3 := hid (HX2.out.below hb3); have HR3 := hid (HR2.out.below hb3); have HB3 := hid (HB2.out.below hb3); have HN3 := hid (HN2.out.trans (near_below hb3)); have HQ3 : Hid (Near (fun i => i = w.heap.size + 1 ∨ i = w.heap.size + 2) V2 V3) := hid (near_below hb3)
    clear hb3 x0 y0 y1 y2 y3 y4 y5 HX2 HR2 HB2 HN2 HF2
    obtain ⟨z, hz⟩ : ∃ z, g (f, kp) = z := ⟨_, rfl⟩
    have HZG := hid hz
    rw [hz]
    clear hz
    obtain ⟨o, ho⟩ : ∃ o, bndO g pre = o := ⟨_, rfl⟩
    rw [ho] at HR3 HB3 HSN
    clear ho
    cases o with
    | none =>
      have r0 := (HR3.out.2 0 (.int .i64 0) rfl).1; have r1 := (HR3.out.2 1 (.int .i64 0) rfl).1; have r2 := (HR3.out.2 0 (.int .i64 0) rfl).2; have r3 := (HR3.out.2 1 (.int .i64 0) rfl).2
      have b0 := (HB3.out.2 0 (.bool false) rfl).1; have b1 := (HB3.out.2 0 (.bool false) rfl).2
      obtain ⟨V4, hV4⟩ : ∃ U, ((V3.setCell ⟨w.heap.size + 1, 0, none⟩ (.int .i64 z)).setCell ⟨w.heap.size + 1, 1, none⟩ (.int .i64 z)).setCell ⟨w.heap.size + 2, 0, none⟩ (.bool true) = U := ⟨_, rfl⟩
      have hn4 : Near (fun i => i = w.heap.size + 1 ∨ i = w.heap.size + 2) V3 V4 := by rw [← hV4]; exact ((nearW V3 (w.heap.size + 1) _ _).mono (fun i _ h => .inl h)).setCell (p := ⟨w.heap.size + 2, 0, none⟩) (fun _ => .inr rfl) _
      have HR4 : Hid (BoxIs (w.heap.size + 1) #[.int .i64 z, .int .i64 z] V4) := hid (by rw [← hV4]; exact ((HR3.out.setRng (r := ⟨0, 0⟩) (q := ⟨z, z⟩))).other (by omega) _)
      have HB4 : Hid (BoxIs (w.heap.size + 2) #[.bool true] V4) := hid (by rw [← hV4]; exact ((HB3.out.other (by omega) _).other (by omega) _).put (j := 0) (.bool true))
      have HX4 := hid (HX3.out.far hn4 (by omega)); have HN4 := hid (HN3.out.trans' hn4 (fun i h1 h2 => by omega)); have HQ4 := hid (HQ3.out.trans hn4)
      clear hn4 HX3 HR3 HB3 HN3 HQ3
      have r0 := (HR4.out.2 0 (.int .i64 z) rfl).1; have r1 := (HR4.out.2 1 (.int .i64 z) rfl).1
      gi_wp2
      refine ⟨trivial, ?_⟩
      gi_at_call 116
      refine (CallsIn.inRound _ (callsIn_wide.2 (wider_any ⟨z, z⟩ z _))).mono ?_
      rintro e V5 ⟨rfl, hb5⟩
      have HX5 := hid (HX4.out.below hb5); have HR5 := hid (HR4.out.below hb5); have HB5 := hid (HB4.out.below hb5); have HN5 := hid (HN4.out.trans (near_below hb5)); have HQ5 := hid (HQ4.out.trans (near_below hb5))
      clear hb5 r0 r1 HX4 HR4 HB4 HN4 HQ4
      rw [wider_self]
      have r0 := (HR5.out.2 0 (.int .i64 z) rfl).1; have r1 := (HR5.out.2 1 (.int .i64 z) rfl).1; have r2 := (HR5.out.2 0 (.int .i64 z) rfl).2; have r3 := (HR5.out.2 1 (.int .i64 z) rfl).2
      gi_wp2
      have hn6 := nearW V5 (w.heap.size + 1) (.int .i64 z) (.int .i64 z)
      refine ⟨HQ5.out.trans (hn6.mono (fun i _ h => .inl h)), HN5.out.trans' hn6 (fun i h1 h2 => by omega), HX5.out.far hn6 (by omega), ?_, ?_⟩
      · rw [HSN.out]; simp only [bndStep, bndQ, HZG.out]; exact (HR5.out.setRng (r := ⟨z, z⟩) (q := ⟨z, z⟩))
      · rw [HSN.out]; exact HB5.out.far hn6 (by omega)
    | some q =>
      have b0 := (HB3.out.2 0 (.bool true) rfl).1
      have HX4 := HX3; have HR4 : Hid (BoxIs (w.heap.size + 1) #[.int .i64 q.lo, .int .i64 q.hi] V3) := HR3; have HB4 := HB3; have HN4 := HN3; have HQ4 := HQ3
      clear HX3 HR3 HB3 HN3 HQ3
      have r0 := (HR4.out.2 0 (.int .i64 q.lo) rfl).1; have r1 := (HR4.out.2 1 (.int .i64 q.hi) rfl).1
      gi_wp2
      refine ⟨trivial, ?_⟩
      gi_at_call 116
      refine (CallsIn.inRound _ (callsIn_wide.2 (wider_any q z _))).mono ?_
      rintro e V5 ⟨rfl, hb5⟩
      have HX5 := hid (HX4.out.below hb5); have HR5 := hid (HR4.out.below hb5); have HB5 := hid (HB4.out.below hb5); have HN5 := hid (HN4.out.trans (near_below hb5)); have HQ5 := hid (HQ4.out.trans (near_below hb5))
      clear hb5 r0 r1 HX4 HR4 HB4 HN4 HQ4
      have r0 := (HR5.out.2 0 (.int .i64 q.lo) rfl).1; have r1 := (HR5.out.2 1 (.int .i64 q.hi) rfl).1; have r2 := (HR5.out.2 0 (.int .i64 q.lo) rfl).2; have r3 := (HR5.out.2 1 (.int .i64 q.hi) rfl).2
      gi_wp2
      have hn6 := nearW V5 (w.heap.size + 1) (.int .i64 (widerR q z).lo) (.int .i64 (widerR q z).hi)
      refine ⟨HQ5.out.trans (hn6.mono (fun i _ h => .inl h)), HN5.out.trans' hn6 (fun i h1 h2 => by omega), HX5.out.far hn6 (by omega), ?_, ?_⟩
      · rw [HSN.out]; simp only [bndStep, bndQ, HZG.out]; exact HR5.out.setRng
      · rw [HSN.out]; exact HB5.out.far hn6 (by omega)
  case done =>
    rintro V ⟨hn, hx, hr, hb⟩ hT hK hsz
    obtain ⟨o, ho⟩ : ∃ o, bndO g (truO p th []) = o := ⟨_, rfl⟩
    rw [ho] at hr hb
    have HR := hid hr; have HB := hid hb; have HN := hid hn; have HTT := hid hT; have HKK := hid hK; have HOO := hid ho
    clear hr hb hn hT hK hsz hx ho
    obtain ⟨L, hL⟩ : ∃ z, (bndQ o).lo = z := ⟨_, rfl⟩
    obtain ⟨H, hH⟩ : ∃ z, (bndQ o).hi = z := ⟨_, rfl⟩
    obtain ⟨B, hB⟩ : ∃ z, o.isSome = z := ⟨_, rfl⟩
    have HL := hid hL; have HH := hid hH; have HBB := hid hB
    rw [hL, hH] at HR
    rw [hB] at HB
    clear hL hH hB
    gi_wp2
    refine wpIn_tame ?_
    refine wpIn_region_anyS (S := fun V => BoxIs (w.heap.size + 1) #[.int .i64 L, .int .i64 H] V ∧ BoxIs (w.heap.size + 2) #[.bool B] V ∧ Near (fun k => k = bm) w V ∧ WkS V p lp ln lc tp tn tc rp rn rc th bw bm (nn + 6000) ∧ V.heap[W2.heap.size]? = some (.deferred (some []))) (by kernel_rfl) ⟨HR.out.below (Below.refl _ _).drew, HB.out.below (Below.refl _ _).drew, HN.out.drew, HTT.out.below HM.out (Below.refl _ _).drew, HKK.out⟩ (fun hS => ?_)
    obtain ⟨U0, hU0⟩ : ∃ U, V.drew = U := ⟨_, rfl⟩
    rw [hU0] at hS ⊢
    clear hU0
    simp only [List.size_toArray, List.length_cons, List.length_nil, Nat.reduceAdd, Array.replicate_succ, Array.replicate_zero, List.push_toArray, List.nil_append, List.cons_append]
    refine anyS_take (i := 0) (v := ?_) rfl rfl (by kernel_rfl) (by kernel_rfl) (by kernel_rfl) (nq_panic _ _) (Or.inl ⟨by rfl, fun V hV => ?_⟩) (fun _ => rfl) (by assumption) ?_
    rotate_left
    · have e0 := (hV.1.2 0 (.int .i64 L) rfl).1; have e1 := (hV.1.2 1 (.int .i64 H) rfl).1; go_simp
      try with_reducible rfl
    try simp only [Act.put, List.getElem_toArray, List.getElem_cons_zero, List.setIfInBounds_toArray, List.set_cons_zero, List.set_cons_succ]
    refine anyS_take (i := 1) (v := ?_) rfl rfl (by kernel_rfl) (by kernel_rfl) (by kernel_rfl) (nq_panic _ _) (Or.inl ⟨by rfl, fun V hV => ?_⟩) (fun _ => rfl) (by assumption) ?_
    rotate_left
    · have e0 := (hV.2.1.2 0 (.bool B) rfl).1; go_simp
      try with_reducible rfl
    try simp only [Act.put, List.getElem_toArray, List.getElem_cons_zero, List.getElem_cons_succ, List.setIfInBounds_toArray, List.set_cons_zero, List.set_cons_succ]
    refine anyS_one (i := 2) (by kernel_rfl) rfl (fun K hK => ?_)
    have k0 := (hS.1.2 0 (.int .i64 L) rfl).1; have k1 := (hS.1.2 1 (.int .i64 H) rfl).1; have k2 := (hS.1.2 0 (.int .i64 L) rfl).2; have k3 := (hS.1.2 1 (.int .i64 H) rfl).2
    go_simp
    have hz2 := HZ2.out
    have hn6 := fun V : World => nearW V (w.heap.size + 1) (.int .i64 L) (.int .i64 H)
    have hs6 := fun (U : World) (h : BoxIs (w.heap.size + 1) #[.int .i64 L, .int .i64 H] U) => (show BoxIs (w.heap.size + 1) #[.int .i64 L, .int .i64 H] ((U.setCell ⟨w.heap.size + 1, 0, none⟩ (.int .i64 L)).setCell ⟨w.heap.size + 1, 1, none⟩ (.int .i64 H)) from h.setRng (r := ⟨L, H⟩) (q := ⟨L, H⟩))
    refine hK.out _ _ ⟨hs6 _ hS.1, hS.2.1.far (hn6 _) (by omega), hS.2.2.1.trans' (hn6 _) (fun i h1 h2 => by omega), hS.2.2.2.1.near HM.out (hn6 _) (fun i hi hi2 => by have := HWK.out.rd hi; omega), ((hn6 _).block _ (Array.getElem?_eq_some_iff.1 hS.2.2.2.2).1 (by omega)).trans hS.2.2.2.2⟩ (fun hS => ?_)
    clear hK K k0 k1 k2 k3 hz2 hn6 hs6
    try simp only [List.setIfInBounds_toArray, List.set_cons_zero, List.set_cons_succ]
    refine anyS_one (i := 3) (by kernel_rfl) rfl (fun K hK => ?_)
    have k0 := (hS.2.1.2 0 (.bool B) rfl).1; have k1 := (hS.2.1.2 0 (.bool B) rfl).2
    go_simp
    have hz2 := HZ2.out
    have hn6 := fun V : World => near_one (S := fun i => i = w.heap.size + 2) (W := V) (o := 0) rfl (.bool B)
    refine hK.out _ _ ⟨hS.1.far (hn6 _) (by omega), hS.2.1.put (j := 0) (.bool B), hS.2.2.1.trans' (hn6 _) (fun i h1 h2 => by omega), hS.2.2.2.1.near HM.out (hn6 _) (fun i hi hi2 => by have := HWK.out.rd hi; omega), ((hn6 _).block _ (Array.getElem?_eq_some_iff.1 hS.2.2.2.2).1 (by omega)).trans hS.2.2.2.2⟩ (fun hS => ?_)
    clear hK K k0 k1 hn6
    try simp only [List.setIfInBounds_toArray, List.set_cons_zero, List.set_cons_succ]
    refine anyS_done (by kernel_rfl) ⟨rfl, ?_⟩ _
    gi_wp2
    refine ⟨by simp, .inl ⟨_, _, rfl, run_takeDeferred hS.2.2.2.2, ?_⟩⟩
    have hn9 := fun V : World => Near.putObj (w := V) W2.heap.size (.deferred none)
    have q0 := ((hS.1.far (hn9 _) (by omega)).2 0 (.int .i64 L) rfl).1; have q1 := ((hS.1.far (hn9 _) (by omega)).2 1 (.int .i64 H) rfl).1; have q2 := ((hS.2.1.far (hn9 _) (by omega)).2 0 (.bool B) rfl).1
    refine ⟨.tuple #[.agg #[.int .i64 L, .int .i64 H], .bool B], by simp [results, Try.f80, go_sem, q0, q1, q2], ?_, hS.2.2.2.1.near HM.out (hn9 _) (fun i hi hi2 => by have := HWK.out.rd hi; omega), hS.2.2.1.trans' (hn9 _) (fun i h1 h2 => by omega)⟩
    rw [HOO.out, HL.out, HH.out, HBB.out]
  case stop =>
    rintro pre rest V hall hx hT hK hsz
    exact hx.elim
end Go.Proofs.Ytaioobhblfnlaaa
