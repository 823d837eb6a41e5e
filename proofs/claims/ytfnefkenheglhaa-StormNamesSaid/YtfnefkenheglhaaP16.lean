/- Package storm: whether some cards are right together, whether cards can be left out, whether they clash. No condition. -/
import Derived.Test.YtfnefkenheglhaaP13
namespace Go.Proofs.Ytfnefkenheglhaa
open Go.RowKit
attribute [local go_sem] Oper.semAt_some

theorem IntsAt.kept {w w' : World} {p n l} (h : IntsAt w p n l) (hb : ∀ a, p = some a → 0 < n → a.block < w.heap.size → w'.heap[a.block]? = w.heap[a.block]?) : IntsAt w' p n l :=
  ⟨h.1, fun i hi => by
    obtain ⟨b, off, hp, hlt, hc⟩ := h.at hi
    have hk : w'.heap[b]? = w.heap[b]? := hb _ hp (by omega) hlt
    exact ⟨b, off, hp, (World.cell?_of_block hk).trans hc⟩⟩
theorem hasB_drop {l : List Int} {k : Nat} {x : Int} (hk : k < l.length) : hasB (l.drop k) x = ((l[k]?.getD 0 == x) || hasB (l.drop (k + 1)) x) := by rw [drop_at l k hk]; rfl

set_option maxRecDepth 20000 in
set_option maxHeartbeats 1000000 in
theorem index126_any (p : Option Addr) (n c : Nat) (l : List Int) (x : Int) (w : World) (hl : IntsAt w p n l) (hn : n ≤ 100000) :
    Calls Try.prog 126 #[.slice p n c, .int .i64 x] w fun e w' => ∃ j : Int, e = .returned (.int .i64 j) ∧ (decide (0 ≤ j) = hasB l x) ∧ Below w.heap.size w w' := by
  have HL := hid hl
  have hlen := hid hl.1
  clear hl
  go_enter Try.func126, Try.ntmps126
  go_wp2_with fail
  go_loopw [8] (fun i wr => ∃ k : Nat, k ≤ n ∧ i = .int .i64 k ∧ hasB (l.drop k) x = hasB l x ∧ Below w.heap.size w wr) (fun i _ => n - (intOf i).toNat)
  case atStart => exact ⟨0, by omega, rfl, by simp, Below.refl _ _⟩
  case round =>
    obtain ⟨k, hk, rfl, ha, hb⟩ := hrel
    have HA := hid ha; have HB := hid hb
    by_cases hlt : k < n
    · obtain ⟨b1, o1, rfl, hlt1, c0⟩ := (HL.out.below hb).at hlt
      have HD := hid (hasB_drop (x := x) (show k < l.length by have := hlen.out; omega))
      obtain ⟨y, hy⟩ : ∃ y, l[k]?.getD 0 = y := ⟨_, rfl⟩
      rw [hy] at c0 HD
      clear ha hb hy
      by_cases hxy : x = y
      · subst hxy
        go_wp2_with fail
        go_ret
        exact ⟨k, rfl, by rw [← HA.out, HD.out]; simp, HB.out⟩
      · have hxy' : (x == y) = false := by simpa using hxy
        have HYX : Hid ((y == x) = false) := by show _ = _; simpa using fun h => hxy h.symm
        go_wp2_with fail
        go_roundw
        case rel => exact ⟨k + 1, by omega, by go_num, by rw [← HA.out, HD.out, HYX.out, Bool.false_or], HB.out⟩
        case measure => simp [intOf]; omega
    · have hkN : l.drop k = [] := List.drop_eq_nil_of_le (by have := hlen.out; omega)
      rw [hkN] at ha
      have HA2 := hid ha
      clear hkN ha hb
      go_wp2_with fail
      go_ret
      exact ⟨-1, rfl, by rw [← HA2.out]; rfl, HB.out⟩

set_option maxRecDepth 20000 in
set_option maxHeartbeats 1000000 in
theorem contains_any (p : Option Addr) (n c : Nat) (l : List Int) (x : Int) (w : World) (hl : IntsAt w p n l) (hn : n ≤ 100000) :
    Calls Try.prog 119 #[.slice p n c, .int .i64 x] w fun e w' => e = .returned (.bool (hasB l x)) ∧ Below w.heap.size w w' := by
  have HI := hid (index126_any p n c l x w hl hn)
  clear hl
  go_enter Try.func119, Try.ntmps119
  go_wp2_with fail
  refine HI.out.mono ?_
  rintro e w1 ⟨j, rfl, hj, hb⟩
  have HJ := hid hj
  clear hj
  go_wp2_with fail
  go_ret
  exact ⟨ret_bool HJ.out, hb⟩
set_option maxRecDepth 20000 in
set_option maxHeartbeats 1000000 in
theorem is118_any (p : Option Addr) (n c bl : Nat) (l : List Int) (x : Int) (w : World) (hc : w.cell? ⟨bl, 0, none⟩ = some (.slice p n c)) (hl : IntsAt w p n l) (hn : n ≤ 100000) :
    Calls Try.prog 118 #[.int .i64 x, .pointer (some ⟨bl, 0, none⟩)] w fun e w' => e = .returned (.bool (!hasB l x)) ∧ Below w.heap.size w w' := by
  have HI := hid (contains_any p n c l x w hl hn)
  clear hl
  go_enter Try.func118, Try.ntmps118
  go_wp2_with fail
  refine HI.out.mono ?_
  rintro e w1 ⟨rfl, hb⟩
  go_wp2_with fail
  go_ret
  exact ⟨rfl, hb⟩
set_option maxRecDepth 20000 in
set_option maxHeartbeats 1000000 in
theorem is122_any (p : Option Addr) (n c bl : Nat) (l : List Int) (x : Int) (w : World) (hc : w.cell? ⟨bl, 0, none⟩ = some (.slice p n c)) (hl : IntsAt w p n l) (hn : n ≤ 100000) :
    Calls Try.prog 122 #[.int .i64 x, .pointer (some ⟨bl, 0, none⟩)] w fun e w' => e = .returned (.bool (hasB l x)) ∧ Below w.heap.size w w' := by
  have HI := hid (contains_any p n c l x w hl hn)
  clear hl
  go_enter Try.func122, Try.ntmps122
  go_wp2_with fail
  refine HI.out.mono ?_
  rintro e w1 ⟨rfl, hb⟩
  go_wp2_with fail
  go_ret
  exact ⟨rfl, hb⟩

/-- The cards of g are right in a truth. -/
def okT (s : Sto) (g : Nat → Bool) (t : Tru) : Bool := all6 fun i => rightF s t i || !g i
def togetherB (s : Sto) (g : Nat → Bool) : Bool := (possL s).any (okT s g)
/-- How together ends. -/
def TogPost (s : Sto) (p : Option Addr) (n c b bm nn : Nat) (w : World) (r : Bool) : Ending → World → Prop := fun e w' => e = .returned (.bool r) ∧ WK s p n c b bm (nn + 2000) w w'
theorem WK.more {s : Sto} {p : Option Addr} {n c b bm nn nn' : Nat} {w W : World} (h : WK s p n c b bm nn w W) (hn : nn ≤ nn') : WK s p n c b bm nn' w W := by
  obtain ⟨h1, h2, M, h3, h4⟩ := h
  exact ⟨h1, h2, M, h3.more hn, h4⟩
def midF (s : Sto) (g : Nat → Bool) (t : Tru) (k : Nat) : Nat → Bool := fun j => rightF s t j || (decide (j < k) && !g j)
theorem mid_set {s : Sto} {g : Nat → Bool} {t : Tru} {k : Nat} {b : Nat} {W : World} {y : Bool} (h : BoxIs b (B6 (midF s g t k)) W) (hk : k < 6) (hy : y = (rightF s t k || !g k)) : BoxIs b (B6 (midF s g t (k + 1))) (W.setCell ⟨b, k, none⟩ (.bool y)) := by
  have h2 := h.set6 hk y
  rwa [B6_ext (g := midF s g t (k + 1)) (fun i _ => by
    unfold updB midF
    by_cases e : i = k
    · subst e; rw [if_pos rfl, hy]; simp
    · rw [if_neg e]
      have : decide (i < k + 1) = decide (i < k) := by
        by_cases h : i < k
        · simp [h, Nat.lt_succ_of_lt h]
        · have h2 : ¬ i < k + 1 := by omega
          simp [h, h2]
      rw [this])] at h2

set_option maxRecDepth 40000 in
set_option maxHeartbeats 8000000 in
theorem together118_any (s : Sto) (p : Option Addr) (n c b bm nn bl : Nat) (g : Nat → Bool) (w : World) (hw : WK s p n c b bm nn w w) (hcs : CrdsAt w p n s.cards) (hpb : ∀ a, p = some a → 0 < n → a.block ≠ bm) (ok : OkS s) (hb : b < w.heap.size) (hm : bm < w.heap.size) (hbm : b ≠ bm) (hnn : nn + 2000 < maxLen)
    (hg : ∀ W, Near (fun k => k = bm) w W → ∀ i : Nat, i < 6 → Calls Try.prog 118 #[.int .i64 (i : Int), .pointer (some ⟨bl, 0, none⟩)] W fun e w' => e = .returned (.bool (g i)) ∧ Below W.heap.size W w') :
    Calls Try.prog 117 #[.pointer (some ⟨b, 0, none⟩), .func (.func 118) #[] #[.pointer (some ⟨bl, 0, none⟩)]] w (TogPost s p n c b bm nn w (togetherB s g)) := by
  have HW := hid hw
  have HOK := hid ok
  have HCR := hid (fun W (hW : Near (fun k => k = bm) w W) => hcs.kept hW.size (fun a ha hn0 hlt => hW.block _ hlt (hpb a ha hn0)))
  have HLEN := hid (poss_len ok)
  have HGC := hid hg
  have HNN := hid hnn
  have HG := hid (fun W bv (hI : ItAt W bv b s p n c) => possible_gives s p n c bv b ok.ranges ok.h12 W 21 hI)
  clear hw hcs hpb ok hg hnn
  obtain ⟨W0, hW0⟩ : ∃ W, ((w.alloc (.cells #[.pointer (some ⟨b, 0, none⟩)] 120)).alloc (.cells #[.func (.func 118) #[] #[.pointer (some ⟨bl, 0, none⟩)]] 150)).alloc (.cells #[.bool false] 4) = W := ⟨_, rfl⟩
  have HB0 : Hid (Below w.heap.size w W0) := by show Below _ _ _; rw [← hW0]; exact (((Below.refl _ _).alloc (Nat.le_refl _) _).alloc (by simp) _).alloc (by simp; omega) _
  have HP0 : Hid (BoxIs w.heap.size #[.pointer (some ⟨b, 0, none⟩)] W0) := by show BoxIs _ _ _; rw [← hW0]; exact ((BoxIs.start _ _ _).below ((Below.refl _ _).alloc (Nat.le_refl _) _)).below ((Below.refl _ _).alloc (Nat.le_refl _) _)
  have HF0 : Hid (BoxIs (w.heap.size + 1) #[.func (.func 118) #[] #[.pointer (some ⟨bl, 0, none⟩)]] W0) := by
    show BoxIs _ _ _
    have h := (BoxIs.start (w.alloc (.cells #[.pointer (some ⟨b, 0, none⟩)] 120)) #[.func (.func 118) #[] #[.pointer (some ⟨bl, 0, none⟩)]] 150).below ((Below.refl _ _).alloc (Nat.le_refl _) (.cells #[.bool false] 4))
    rw [World.size_alloc, hW0] at h; exact h
  have HX0 : Hid (BoxIs (w.heap.size + 2) #[.bool false] W0) := by
    show BoxIs _ _ _
    have h := BoxIs.start ((w.alloc (.cells #[.pointer (some ⟨b, 0, none⟩)] 120)).alloc (.cells #[.func (.func 118) #[] #[.pointer (some ⟨bl, 0, none⟩)]] 150)) #[.bool false] 4
    rw [World.size_alloc, World.size_alloc, hW0] at h; exact h
  have HZ0 : Hid (W0.heap.size = w.heap.size + 3) := by show _ = _; rw [← hW0]; simp
  refine (callsIn_wide (n := 22)).1 ?_
  refine callsIn_of_wp_marks Try.func117 rfl trivial ?_ rfl
  simp only [Try.ntmps117, List.size_toArray, List.length_cons, List.length_nil, Nat.reduceAdd, Nat.reduceSub, Array.replicate_succ, Array.replicate_zero, List.push_toArray, List.append_toArray, List.nil_append, List.cons_append]
  have k0 := (HP0.out.2 0 (.pointer (some ⟨b, 0, none⟩)) rfl).1
  gi_wp2
  refine ⟨trivial, ?_⟩
  simp only [Nat.add_assoc, Nat.reduceAdd]
  gi_at_call 82
  refine (callsIn_wide.2 (possibleF_any _ _)).mono ?_
  rintro e w5 ⟨rfl, rfl⟩
  clear k0 hW0
  gi_wp2
  obtain ⟨W5, hW5⟩ : ∃ W, W0.alloc (.cells #[.pointer (some ⟨b, 0, none⟩)] 120) = W := ⟨_, rfl⟩
  have hI5 : ItAt W5 W0.heap.size b s p n c := by
    rw [← hW5]
    exact ⟨cell_box W0 _ 120 0 _ rfl, (HW.out.2.1.sto.below HB0.out).below ((Below.refl _ _).alloc (Nat.le_refl _) _)⟩
  have hb5 : Below w.heap.size w W5 := by rw [← hW5]; exact HB0.out.alloc (by have := HZ0.out; omega) _
  have hb05 : Below W0.heap.size W0 W5 := by rw [← hW5]; exact (Below.refl _ _).alloc (Nat.le_refl _) _
  have hz5 : W5.heap.size = w.heap.size + 4 := by rw [← hW5, World.size_alloc, HZ0.out]
  have hz0 := HZ0.out
  rw [hW5]
  clear hW5
  refine wpIn_rangeFunc_near3 rfl (by omega) (gf := 115) (lb := #[.pointer (some ⟨W0.heap.size, 0, none⟩)]) rfl trivial (enters_of Try.func115 (by kernel_rfl) rfl) (fun t => (rfl : (encT t).size = #[10].size))
    (HG.out W5 W0.heap.size hI5) (Below.refl _ _) (fun i hi => by omega) (fun i => i = bm ∨ i = w.heap.size + 2) (fun i hi => ⟨by omega, by omega⟩)
    (fun pre W => WK s p n c b bm (nn + pre.length) w W ∧ BoxIs w.heap.size #[.pointer (some ⟨b, 0, none⟩)] W ∧ BoxIs (w.heap.size + 1) #[.func (.func 118) #[] #[.pointer (some ⟨bl, 0, none⟩)]] W ∧ BoxIs (w.heap.size + 2) #[.bool false] W ∧ (pre.all fun t => !okT s g t) = true)
    (fun pre W => (pre.any (okT s g)) = true ∧ WK s p n c b bm (nn + pre.length) w W ∧ W.cell? ⟨w.heap.size + 2, 0, none⟩ = some (.bool true))
    (fun pre W1 W2 h hn => ⟨h.1.near hn (by omega) hb hm, h.2.1.near hn (by omega), h.2.2.1.near hn (by omega), h.2.2.2.1.near hn (by omega), h.2.2.2.2⟩)
    (fun pre W1 W2 h hn => ⟨h.1, h.2.1.near hn (by omega) hb hm, (hn.cell (World.block_lt_of_cell? _ _ h.2.2) (by show ¬ (w.heap.size + 2 = _ ∨ w.heap.size + 2 = _); omega)).trans h.2.2⟩) ?h0 ?round ?done ?stop
  case h0 =>
    exact ⟨HW.out.near (Near.of_below hb5 (S := fun k => w.heap.size ≤ k) (fun i _ h => h)) (fun k hk => hk) hb hm, HP0.out.below hb05, HF0.out.below hb05, HX0.out.below hb05, rfl⟩
  case round =>
    rintro pre x rest W hall hsz ⟨hwk, hP, hF, hX, hal⟩
    have htr : truB s x = true := mem_poss.1 (by rw [hall]; simp)
    have hpl : pre.length < 2000 := by have h1 := HLEN.out; rw [hall] at h1; simp at h1; omega
    have HWK := hid hwk; have HP := hid hP; have HF := hid hF; have HX := hid hX; have HSZ := hid hsz; have HAL := hid hal
    have HZ5 : Hid (W5.heap.size = w.heap.size + 4) := hz5
    have HTR := hid htr; have HPL := hid hpl
    clear hall hwk hP hF hX hsz hz5 hz0 hb5 hb05 hI5 htr hpl hal
    simp only [encT]
    gi_wp2
    refine ⟨(Near.refl _ _).alloc _, fun W2 hn2 => ?_⟩
    have hn3 : Near (fun k => k = W5.heap.size + 1) W W2 := ((Near.refl _ _).alloc _).trans hn2
    have HWK2 : Hid (WK s p n c b bm (nn + pre.length) w W2) := HWK.out.near hn3 (fun k hk => by have := HZ5.out; omega) hb hm
    have HP2 : Hid (BoxIs w.heap.size #[.pointer (some ⟨b, 0, none⟩)] W2) := HP.out.near hn3 (by have := HZ5.out; omega)
    have HF2 : Hid (BoxIs (w.heap.size + 1) #[.func (.func 118) #[] #[.pointer (some ⟨bl, 0, none⟩)]] W2) := HF.out.near hn3 (by have := HZ5.out; omega)
    have HX2 : Hid (BoxIs (w.heap.size + 2) #[.bool false] W2) := HX.out.near hn3 (by have := HZ5.out; omega)
    have HT2 : Hid (TruAt W2 W.heap.size x) := (TruAt.of (cell_box W #[.int .i64 x.a, .int .i64 x.b, .int .i64 x.half, .int .i64 x.peak] 94)).kept (hn2.block W.heap.size (by simp) (by have := HSZ.out; omega))
    clear HWK HP HF HX hn2 hn3
    have p0 := (HP2.out.2 0 (.pointer (some ⟨b, 0, none⟩)) rfl).1
    have t0 := HT2.out.c0; have t1 := HT2.out.c1; have t2 := HT2.out.c2; have t3 := HT2.out.c3
    gi_wp2
    refine ⟨trivial, ?_⟩
    gi_at_call 83
    obtain ⟨M, hM, hKn⟩ := HWK2.out.2.2
    refine (CallsIn.inRound _ (callsIn_wide.2 (right6_any s p n c x b bm _ M W2 HWK2.out.2.1 (HCR.out _ HWK2.out.1) hM hKn (by have := HPL.out; have := HNN.out; omega) HOK.out HTR.out))).mono ?_
    rintro e W3 ⟨rfl, M', hM', hKn', hn3⟩
    have HWK3 : Hid (WK s p n c b bm (nn + (pre.length + 1)) w W3) := HWK2.out.right hn3 hM' hKn' hbm
    have HX3 : Hid (BoxIs (w.heap.size + 2) #[.bool false] W3) := HX2.out.near hn3 (by omega)
    have HP3 : Hid (BoxIs w.heap.size #[.pointer (some ⟨b, 0, none⟩)] W3) := HP2.out.near hn3 (by omega)
    have HF3 : Hid (BoxIs (w.heap.size + 1) #[.func (.func 118) #[] #[.pointer (some ⟨bl, 0, none⟩)]] W3) := HF2.out.near hn3 (by omega)
    have HN3 : Hid (Near (fun i => i = bm ∨ i = w.heap.size + 2) W2 W3) := hid (hn3.mono fun i _ h => .inl h)
    have HLENE : Hid ((pre ++ [x]).length = pre.length + 1) := by show _ = _; simp
    have HZ3 : Hid (w.heap.size + 2 < W3.heap.size) := hid HX3.out.1
    clear HWK2 HX2 HP2 HF2 HT2 hM hKn hM' hKn' hn3 p0 t0 t1 t2 t3
    obtain ⟨W4, hW4⟩ : ∃ V, W3.alloc (.cells (B6 (rightF s x)) 135) = V := ⟨_, rfl⟩
    have hx4 : BoxIs W3.heap.size (B6 (midF s g x 0)) W4 := by
      rw [← hW4, B6_ext (g := rightF s x) (fun i _ => by simp [midF])]
      exact BoxIs.start W3 _ 135
    have HX4 := hid hx4
    have HB4 : Hid (Below W3.heap.size W3 W4) := by show Below _ _ _; rw [← hW4]; exact (Below.refl _ _).alloc (Nat.le_refl _) _
    clear hx4
    unfold B6 at hW4 ⊢
    gi_wp2
    gi_loopw [14] (fun i wr => ∃ k : Nat, k ≤ 6 ∧ i = .int .i64 k ∧ BoxIs W3.heap.size (B6 (midF s g x k)) wr ∧ Below W3.heap.size W3 wr) (fun i _ => 6 - (intOf i).toNat)
    case atStart => exact ⟨0, by omega, rfl, HX4.out, HB4.out⟩
    case round =>
      obtain ⟨k, hk, rfl, hx, hbr⟩ := hrel
      have HXR := hid hx; have HBR := hid hbr
      have HZR := hid hx.1
      clear HX4 HB4 hW4
      by_cases hlt : k < 6
      · have hg0 := hx.get6 hlt
        have g0 := hg0.1; have g1 := hg0.2
        have hmk : midF s g x k k = rightF s x k := by simp [midF]
        rw [hmk] at g0
        clear hx hg0 hmk
        cases hr : rightF s x k
        · rw [hr] at g0
          have HR := hid hr
          have HGC4 := hid (HGC.out wr (HWK3.out.1.trans ((near_below hbr).mono (fun _ _ h => h.elim))) k hlt)
          have hf0 := ((HF3.out.below hbr).2 0 (.func (.func 118) #[] #[.pointer (some ⟨bl, 0, none⟩)]) rfl).1
          clear hr hbr
          gi_wp2
          refine ⟨trivial, ?_⟩
          gi_at_call 118
          refine (CallsIn.inRound _ (callsIn_wide.2 HGC4.out)).mono ?_
          rintro e W7 ⟨rfl, hb7⟩
          have HX7 := hid (HXR.out.below hb7)
          have HB7 := hid (HBR.out.trans (hb7.mono HBR.out.size))
          have g0 := (HX7.out.get6 hlt).1; have g1 := (HX7.out.get6 hlt).2
          clear hf0 hb7
          gi_wp2
          go_roundw
          case rel => exact ⟨k + 1, by omega, by go_num, mid_set HX7.out hlt (by rw [HR.out]; simp), HB7.out.setCell (p := ⟨W3.heap.size, k, none⟩) (Nat.le_refl _) _⟩
          case measure => simp [intOf]; omega
        · rw [hr] at g0
          have HR := hid hr
          clear hr hbr
          gi_wp2
          refine ⟨(fun f h => by cases h), ?_⟩
          gi_wp2
          go_roundw
          case rel => exact ⟨k + 1, by omega, by go_num, mid_set HXR.out hlt (by rw [HR.out]; simp), HBR.out.setCell (p := ⟨W3.heap.size, k, none⟩) (Nat.le_refl _) _⟩
          case measure => simp [intOf]; omega
      · have hk6 : k = 6 := by omega
        subst hk6
        have heq := fun V => eq6 (midF s g x 6 0) (midF s g x 6 1) (midF s g x 6 2) (midF s g x 6 3) (midF s g x 6 4) (midF s g x 6 5) V
        have hok : (midF s g x 6 0 && (midF s g x 6 1 && (midF s g x 6 2 && (midF s g x 6 3 && (midF s g x 6 4 && midF s g x 6 5))))) = okT s g x := by simp [midF, okT, all6]
        simp only [hok] at heq
        clear hok hx hbr
        cases hokt : okT s g x
        · rw [hokt] at heq
          have HOKT := hid hokt; have HE6 := hid heq
          clear hokt heq
          gi_wp2
          refine wpIn_region_held_round (S := fun V => BoxIs W3.heap.size (B6 (midF s g x 6)) V ∧ Below W3.heap.size W3 V) (by kernel_rfl) (by kernel_rfl) (fun ⟨_, _, h⟩ => h) ⟨HXR.out.below (Below.refl _ _).drew, HBR.out.drew⟩ (fun hS => ?_)
          simp only [List.size_toArray, List.length_cons, List.length_nil, Nat.reduceAdd, Array.replicate_succ, Array.replicate_zero, List.push_toArray, List.nil_append, List.cons_append]
          refine tkH (i := 0) (v := ?_) (fun V hV => ?_) ?_
          rotate_left
          · have f0 := (hV.1.get6 (k := 0) (by decide)).1; have f1 := (hV.1.get6 (k := 1) (by decide)).1; have f2 := (hV.1.get6 (k := 2) (by decide)).1; have f3 := (hV.1.get6 (k := 3) (by decide)).1; have f4 := (hV.1.get6 (k := 4) (by decide)).1; have f5 := (hV.1.get6 (k := 5) (by decide)).1; go_simp
            try with_reducible rfl
          try simp only [Act.put, List.getElem_toArray, List.getElem_cons_zero, List.setIfInBounds_toArray, List.set_cons_zero, List.set_cons_succ]
          refine wpAnyH_ready (rs := [1]) (by kernel_rfl) (by simp) ?_
          refine AllReadyH.cons (o := _) rfl (fun K hK => ?_) AllReadyH.nil
          go_simp
          (with_reducible refine (every6_any _).mono ?_)
          rintro e W9 ⟨rfl, hb9⟩
          refine hK.out _ _ (⟨hS.1.below hb9, hS.2.trans (hb9.mono hS.2.size)⟩) (fun hS => ?_)
          clear hK K
          try simp only [List.setIfInBounds_toArray, List.set_cons_zero, List.set_cons_succ]
          refine tkH (i := 2) (v := ?_) (fun V hV => ?_) ?_
          rotate_left
          · have q := HE6.out V; go_simp
            try with_reducible rfl
          try simp only [Act.put, List.getElem_toArray, List.getElem_cons_zero, List.getElem_cons_succ, List.setIfInBounds_toArray, List.set_cons_zero, List.set_cons_succ]
          refine wpAnyH_done (by kernel_rfl) ?_ _
          have HS9 := hid hS
          clear hS
          gi_wp2
          exact ⟨HN3.out.trans ((near_below HS9.out.2).mono (fun _ _ h => h.elim)), by rw [HLENE.out]; exact HWK3.out.near (near_below HS9.out.2) (fun _ h => h.elim) hb hm, HP3.out.below HS9.out.2, HF3.out.below HS9.out.2, HX3.out.below HS9.out.2, by rw [List.all_append, HAL.out]; simp only [List.all_cons, HOKT.out, Bool.not_false, List.all_nil, Bool.and_self]⟩
        · rw [hokt] at heq
          have HOKT := hid hokt; have HE6 := hid heq
          clear hokt heq
          gi_wp2
          refine wpIn_region_held_round (S := fun V => BoxIs W3.heap.size (B6 (midF s g x 6)) V ∧ Below W3.heap.size W3 V) (by kernel_rfl) (by kernel_rfl) (fun ⟨_, _, h⟩ => h) ⟨HXR.out.below (Below.refl _ _).drew, HBR.out.drew⟩ (fun hS => ?_)
          simp only [List.size_toArray, List.length_cons, List.length_nil, Nat.reduceAdd, Array.replicate_succ, Array.replicate_zero, List.push_toArray, List.nil_append, List.cons_append]
          refine tkH (i := 0) (v := ?_) (fun V hV => ?_) ?_
          rotate_left
          · have f0 := (hV.1.get6 (k := 0) (by decide)).1; have f1 := (hV.1.get6 (k := 1) (by decide)).1; have f2 := (hV.1.get6 (k := 2) (by decide)).1; have f3 := (hV.1.get6 (k := 3) (by decide)).1; have f4 := (hV.1.get6 (k := 4) (by decide)).1; have f5 := (hV.1.get6 (k := 5) (by decide)).1; go_simp
            try with_reducible rfl
          try simp only [Act.put, List.getElem_toArray, List.getElem_cons_zero, List.setIfInBounds_toArray, List.set_cons_zero, List.set_cons_succ]
          refine wpAnyH_ready (rs := [1]) (by kernel_rfl) (by simp) ?_
          refine AllReadyH.cons (o := _) rfl (fun K hK => ?_) AllReadyH.nil
          go_simp
          (with_reducible refine (every6_any _).mono ?_)
          rintro e W9 ⟨rfl, hb9⟩
          refine hK.out _ _ (⟨hS.1.below hb9, hS.2.trans (hb9.mono hS.2.size)⟩) (fun hS => ?_)
          clear hK K
          try simp only [List.setIfInBounds_toArray, List.set_cons_zero, List.set_cons_succ]
          refine tkH (i := 2) (v := ?_) (fun V hV => ?_) ?_
          rotate_left
          · have q := HE6.out V; go_simp
            try with_reducible rfl
          try simp only [Act.put, List.getElem_toArray, List.getElem_cons_zero, List.getElem_cons_succ, List.setIfInBounds_toArray, List.set_cons_zero, List.set_cons_succ]
          refine wpAnyH_done (by kernel_rfl) ?_ _
          have HS9 := hid hS
          clear hS
          have q0 := (HX3.out.near (near_below HS9.out.2) (fun h => h.elim)).2 0 (.bool false) rfl
          have q1 := q0.1; have q2 := q0.2
          clear q0
          gi_wp2
          exact ⟨((HN3.out.trans ((near_below HS9.out.2).mono (fun _ _ h => h.elim))).setCell (p := ⟨w.heap.size + 2, 0, none⟩) (fun _ => .inr rfl) _), by simp only [List.any_append, List.any_cons, HOKT.out, Bool.true_or, Bool.or_true], by rw [HLENE.out]; exact (HWK3.out.near (near_below HS9.out.2) (fun _ h => h.elim) hb hm).near ((Near.refl (fun k => k = w.heap.size + 2) _).setCell (p := ⟨w.heap.size + 2, 0, none⟩) (fun _ => rfl) _) (fun k hk => by omega) hb hm, World.cell?_setCell_same' _ _ _ (by rw [q1]; rfl)⟩
  case done =>
    rintro W ⟨hwk, hP, hF, hX, hal⟩ hK hsz
    have HWK := hid hwk; have HX := hid hX; have HAL := hid hal
    have HZ5 : Hid (W5.heap.size = w.heap.size + 4) := hz5
    have g0 := (HX.out.2 0 (.bool false) rfl).1; have g1 := (HX.out.2 0 (.bool false) rfl).2
    clear hwk hP hF hX hal hz5 hz0 hb5 hb05 hI5 hsz
    gi_wp2
    have hz5 := HZ5.out
    have hK' : (W.setCell ⟨w.heap.size + 2, 0, none⟩ (.bool false)).heap[W5.heap.size]? = some (.deferred (some [])) := (Below.heap_setCell _ _ _ _ (by show _ ≠ w.heap.size + 2; omega)).trans hK
    refine ⟨by simp, .inl ⟨_, _, rfl, run_takeDeferred hK', ?_⟩⟩
    have hX2 : BoxIs (w.heap.size + 2) #[.bool false] (W.setCell ⟨w.heap.size + 2, 0, none⟩ (.bool false)) := HX.out.put (j := 0) _
    have hc5 := ((hX2.near (Near.putObj W5.heap.size (.deferred none)) (by omega)).2 0 (.bool false) rfl).1
    refine ⟨.bool false, ?_, ?_, ?_⟩
    · simp [results, Try.f117, go_sem, hc5]
    · have : togetherB s g = false := by
        rw [togetherB, List.any_eq_false]
        intro q hq
        have := List.all_eq_true.1 HAL.out q hq
        simpa using this
      rw [this]
    · exact ((HWK.out.near ((Near.refl (fun k => k = w.heap.size + 2) _).setCell (p := ⟨w.heap.size + 2, 0, none⟩) (fun _ => rfl) _) (fun k hk => by omega) hb hm).near (Near.putObj _ _) (fun k hk => by omega) hb hm).more (by have := HLEN.out; omega)
  case stop =>
    rintro pre rest W hall ⟨hm1, hwk, hcW⟩ hK hsz
    have HM1 := hid hm1
    have HWK := hid hwk
    have HAL := hid hall
    have HZ5 : Hid (W5.heap.size = w.heap.size + 4) := hz5
    have HCW := hid hcW
    clear hm1 hall hz5 hz0 hb5 hb05 hI5 hsz hcW hwk
    gi_wp2
    have hz5 := HZ5.out
    refine ⟨by simp, .inl ⟨_, _, rfl, run_takeDeferred hK, ?_⟩⟩
    have hc5 : (W.putObj W5.heap.size (.deferred none)).cell? ⟨w.heap.size + 2, 0, none⟩ = some (.bool true) :=
      ((Near.putObj W5.heap.size (.deferred none)).cell (World.block_lt_of_cell? _ _ HCW.out) (by show ¬ (w.heap.size + 2 = _); omega)).trans HCW.out
    refine ⟨.bool true, ?_, ?_, ?_⟩
    · simp [results, Try.f117, go_sem, hc5]
    · have : togetherB s g = true := by rw [togetherB, ← HAL.out, List.any_append, HM1.out]; rfl
      rw [this]
    · exact (HWK.out.near (Near.putObj _ _) (fun k hk => by omega) hb hm).more (by have h1 := HLEN.out; rw [← HAL.out, List.length_append] at h1; omega)

set_option maxRecDepth 40000 in
set_option maxHeartbeats 8000000 in
theorem together122_any (s : Sto) (p : Option Addr) (n c b bm nn bl : Nat) (g : Nat → Bool) (w : World) (hw : WK s p n c b bm nn w w) (hcs : CrdsAt w p n s.cards) (hpb : ∀ a, p = some a → 0 < n → a.block ≠ bm) (ok : OkS s) (hb : b < w.heap.size) (hm : bm < w.heap.size) (hbm : b ≠ bm) (hnn : nn + 2000 < maxLen)
    (hg : ∀ W, Near (fun k => k = bm) w W → ∀ i : Nat, i < 6 → Calls Try.prog 122 #[.int .i64 (i : Int), .pointer (some ⟨bl, 0, none⟩)] W fun e w' => e = .returned (.bool (g i)) ∧ Below W.heap.size W w') :
    Calls Try.prog 117 #[.pointer (some ⟨b, 0, none⟩), .func (.func 122) #[] #[.pointer (some ⟨bl, 0, none⟩)]] w (TogPost s p n c b bm nn w (togetherB s g)) := by
  have HW := hid hw
  have HOK := hid ok
  have HCR := hid (fun W (hW : Near (fun k => k = bm) w W) => hcs.kept hW.size (fun a ha hn0 hlt => hW.block _ hlt (hpb a ha hn0)))
  have HLEN := hid (poss_len ok)
  have HGC := hid hg
  have HNN := hid hnn
  have HG := hid (fun W bv (hI : ItAt W bv b s p n c) => possible_gives s p n c bv b ok.ranges ok.h12 W 21 hI)
  clear hw hcs hpb ok hg hnn
  obtain ⟨W0, hW0⟩ : ∃ W, ((w.alloc (.cells #[.pointer (some ⟨b, 0, none⟩)] 120)).alloc (.cells #[.func (.func 122) #[] #[.pointer (some ⟨bl, 0, none⟩)]] 150)).alloc (.cells #[.bool false] 4) = W := ⟨_, rfl⟩
  have HB0 : Hid (Below w.heap.size w W0) := by show Below _ _ _; rw [← hW0]; exact (((Below.refl _ _).alloc (Nat.le_refl _) _).alloc (by simp) _).alloc (by simp; omega) _
  have HP0 : Hid (BoxIs w.heap.size #[.pointer (some ⟨b, 0, none⟩)] W0) := by show BoxIs _ _ _; rw [← hW0]; exact ((BoxIs.start _ _ _).below ((Below.refl _ _).alloc (Nat.le_refl _) _)).below ((Below.refl _ _).alloc (Nat.le_refl _) _)
  have HF0 : Hid (BoxIs (w.heap.size + 1) #[.func (.func 122) #[] #[.pointer (some ⟨bl, 0, none⟩)]] W0) := by
    show BoxIs _ _ _
    have h := (BoxIs.start (w.alloc (.cells #[.pointer (some ⟨b, 0, none⟩)] 120)) #[.func (.func 122) #[] #[.pointer (some ⟨bl, 0, none⟩)]] 150).below ((Below.refl _ _).alloc (Nat.le_refl _) (.cells #[.bool false] 4))
    rw [World.size_alloc, hW0] at h; exact h
  have HX0 : Hid (BoxIs (w.heap.size + 2) #[.bool false] W0) := by
    show BoxIs _ _ _
    have h := BoxIs.start ((w.alloc (.cells #[.pointer (some ⟨b, 0, none⟩)] 120)).alloc (.cells #[.func (.func 122) #[] #[.pointer (some ⟨bl, 0, none⟩)]] 150)) #[.bool false] 4
    rw [World.size_alloc, World.size_alloc, hW0] at h; exact h
  have HZ0 : Hid (W0.heap.size = w.heap.size + 3) := by show _ = _; rw [← hW0]; simp
  refine (callsIn_wide (n := 22)).1 ?_
  refine callsIn_of_wp_marks Try.func117 rfl trivial ?_ rfl
  simp only [Try.ntmps117, List.size_toArray, List.length_cons, List.length_nil, Nat.reduceAdd, Nat.reduceSub, Array.replicate_succ, Array.replicate_zero, List.push_toArray, List.append_toArray, List.nil_append, List.cons_append]
  have k0 := (HP0.out.2 0 (.pointer (some ⟨b, 0, none⟩)) rfl).1
  gi_wp2
  refine ⟨trivial, ?_⟩
  simp only [Nat.add_assoc, Nat.reduceAdd]
  gi_at_call 82
  refine (callsIn_wide.2 (possibleF_any _ _)).mono ?_
  rintro e w5 ⟨rfl, rfl⟩
  clear k0 hW0
  gi_wp2
  obtain ⟨W5, hW5⟩ : ∃ W, W0.alloc (.cells #[.pointer (some ⟨b, 0, none⟩)] 120) = W := ⟨_, rfl⟩
  have hI5 : ItAt W5 W0.heap.size b s p n c := by
    rw [← hW5]
    exact ⟨cell_box W0 _ 120 0 _ rfl, (HW.out.2.1.sto.below HB0.out).below ((Below.refl _ _).alloc (Nat.le_refl _) _)⟩
  have hb5 : Below w.heap.size w W5 := by rw [← hW5]; exact HB0.out.alloc (by have := HZ0.out; omega) _
  have hb05 : Below W0.heap.size W0 W5 := by rw [← hW5]; exact (Below.refl _ _).alloc (Nat.le_refl _) _
  have hz5 : W5.heap.size = w.heap.size + 4 := by rw [← hW5, World.size_alloc, HZ0.out]
  have hz0 := HZ0.out
  rw [hW5]
  clear hW5
  refine wpIn_rangeFunc_near3 rfl (by omega) (gf := 115) (lb := #[.pointer (some ⟨W0.heap.size, 0, none⟩)]) rfl trivial (enters_of Try.func115 (by kernel_rfl) rfl) (fun t => (rfl : (encT t).size = #[10].size))
    (HG.out W5 W0.heap.size hI5) (Below.refl _ _) (fun i hi => by omega) (fun i => i = bm ∨ i = w.heap.size + 2) (fun i hi => ⟨by omega, by omega⟩)
    (fun pre W => WK s p n c b bm (nn + pre.length) w W ∧ BoxIs w.heap.size #[.pointer (some ⟨b, 0, none⟩)] W ∧ BoxIs (w.heap.size + 1) #[.func (.func 122) #[] #[.pointer (some ⟨bl, 0, none⟩)]] W ∧ BoxIs (w.heap.size + 2) #[.bool false] W ∧ (pre.all fun t => !okT s g t) = true)
    (fun pre W => (pre.any (okT s g)) = true ∧ WK s p n c b bm (nn + pre.length) w W ∧ W.cell? ⟨w.heap.size + 2, 0, none⟩ = some (.bool true))
    (fun pre W1 W2 h hn => ⟨h.1.near hn (by omega) hb hm, h.2.1.near hn (by omega), h.2.2.1.near hn (by omega), h.2.2.2.1.near hn (by omega), h.2.2.2.2⟩)
    (fun pre W1 W2 h hn => ⟨h.1, h.2.1.near hn (by omega) hb hm, (hn.cell (World.block_lt_of_cell? _ _ h.2.2) (by show ¬ (w.heap.size + 2 = _ ∨ w.heap.size + 2 = _); omega)).trans h.2.2⟩) ?h0 ?round ?done ?stop
  case h0 =>
    exact ⟨HW.out.near (Near.of_below hb5 (S := fun k => w.heap.size ≤ k) (fun i _ h => h)) (fun k hk => hk) hb hm, HP0.out.below hb05, HF0.out.below hb05, HX0.out.below hb05, rfl⟩
  case round =>
    rintro pre x rest W hall hsz ⟨hwk, hP, hF, hX, hal⟩
    have htr : truB s x = true := mem_poss.1 (by rw [hall]; simp)
    have hpl : pre.length < 2000 := by have h1 := HLEN.out; rw [hall] at h1; simp at h1; omega
    have HWK := hid hwk; have HP := hid hP; have HF := hid hF; have HX := hid hX; have HSZ := hid hsz; have HAL := hid hal
    have HZ5 : Hid (W5.heap.size = w.heap.size + 4) := hz5
    have HTR := hid htr; have HPL := hid hpl
    clear hall hwk hP hF hX hsz hz5 hz0 hb5 hb05 hI5 htr hpl hal
    simp only [encT]
    gi_wp2
    refine ⟨(Near.refl _ _).alloc _, fun W2 hn2 => ?_⟩
    have hn3 : Near (fun k => k = W5.heap.size + 1) W W2 := ((Near.refl _ _).alloc _).trans hn2
    have HWK2 : Hid (WK s p n c b bm (nn + pre.length) w W2) := HWK.out.near hn3 (fun k hk => by have := HZ5.out; omega) hb hm
    have HP2 : Hid (BoxIs w.heap.size #[.pointer (some ⟨b, 0, none⟩)] W2) := HP.out.near hn3 (by have := HZ5.out; omega)
    have HF2 : Hid (BoxIs (w.heap.size + 1) #[.func (.func 122) #[] #[.pointer (some ⟨bl, 0, none⟩)]] W2) := HF.out.near hn3 (by have := HZ5.out; omega)
    have HX2 : Hid (BoxIs (w.heap.size + 2) #[.bool false] W2) := HX.out.near hn3 (by have := HZ5.out; omega)
    have HT2 : Hid (TruAt W2 W.heap.size x) := (TruAt.of (cell_box W #[.int .i64 x.a, .int .i64 x.b, .int .i64 x.half, .int .i64 x.peak] 94)).kept (hn2.block W.heap.size (by simp) (by have := HSZ.out; omega))
    clear HWK HP HF HX hn2 hn3
    have p0 := (HP2.out.2 0 (.pointer (some ⟨b, 0, none⟩)) rfl).1
    have t0 := HT2.out.c0; have t1 := HT2.out.c1; have t2 := HT2.out.c2; have t3 := HT2.out.c3
    gi_wp2
    refine ⟨trivial, ?_⟩
    gi_at_call 83
    obtain ⟨M, hM, hKn⟩ := HWK2.out.2.2
    refine (CallsIn.inRound _ (callsIn_wide.2 (right6_any s p n c x b bm _ M W2 HWK2.out.2.1 (HCR.out _ HWK2.out.1) hM hKn (by have := HPL.out; have := HNN.out; omega) HOK.out HTR.out))).mono ?_
    rintro e W3 ⟨rfl, M', hM', hKn', hn3⟩
    have HWK3 : Hid (WK s p n c b bm (nn + (pre.length + 1)) w W3) := HWK2.out.right hn3 hM' hKn' hbm
    have HX3 : Hid (BoxIs (w.heap.size + 2) #[.bool false] W3) := HX2.out.near hn3 (by omega)
    have HP3 : Hid (BoxIs w.heap.size #[.pointer (some ⟨b, 0, none⟩)] W3) := HP2.out.near hn3 (by omega)
    have HF3 : Hid (BoxIs (w.heap.size + 1) #[.func (.func 122) #[] #[.pointer (some ⟨bl, 0, none⟩)]] W3) := HF2.out.near hn3 (by omega)
    have HN3 : Hid (Near (fun i => i = bm ∨ i = w.heap.size + 2) W2 W3) := hid (hn3.mono fun i _ h => .inl h)
    have HLENE : Hid ((pre ++ [x]).length = pre.length + 1) := by show _ = _; simp
    have HZ3 : Hid (w.heap.size + 2 < W3.heap.size) := hid HX3.out.1
    clear HWK2 HX2 HP2 HF2 HT2 hM hKn hM' hKn' hn3 p0 t0 t1 t2 t3
    obtain ⟨W4, hW4⟩ : ∃ V, W3.alloc (.cells (B6 (rightF s x)) 135) = V := ⟨_, rfl⟩
    have hx4 : BoxIs W3.heap.size (B6 (midF s g x 0)) W4 := by
      rw [← hW4, B6_ext (g := rightF s x) (fun i _ => by simp [midF])]
      exact BoxIs.start W3 _ 135
    have HX4 := hid hx4
    have HB4 : Hid (Below W3.heap.size W3 W4) := by show Below _ _ _; rw [← hW4]; exact (Below.refl _ _).alloc (Nat.le_refl _) _
    clear hx4
    unfold B6 at hW4 ⊢
    gi_wp2
    gi_loopw [14] (fun i wr => ∃ k : Nat, k ≤ 6 ∧ i = .int .i64 k ∧ BoxIs W3.heap.size (B6 (midF s g x k)) wr ∧ Below W3.heap.size W3 wr) (fun i _ => 6 - (intOf i).toNat)
    case atStart => exact ⟨0, by omega, rfl, HX4.out, HB4.out⟩
    case round =>
      obtain ⟨k, hk, rfl, hx, hbr⟩ := hrel
      have HXR := hid hx; have HBR := hid hbr
      have HZR := hid hx.1
      clear HX4 HB4 hW4
      by_cases hlt : k < 6
      · have hg0 := hx.get6 hlt
        have g0 := hg0.1; have g1 := hg0.2
        have hmk : midF s g x k k = rightF s x k := by simp [midF]
        rw [hmk] at g0
        clear hx hg0 hmk
        cases hr : rightF s x k
        · rw [hr] at g0
          have HR := hid hr
          have HGC4 := hid (HGC.out wr (HWK3.out.1.trans ((near_below hbr).mono (fun _ _ h => h.elim))) k hlt)
          have hf0 := ((HF3.out.below hbr).2 0 (.func (.func 122) #[] #[.pointer (some ⟨bl, 0, none⟩)]) rfl).1
          clear hr hbr
          gi_wp2
          refine ⟨trivial, ?_⟩
          gi_at_call 122
          refine (CallsIn.inRound _ (callsIn_wide.2 HGC4.out)).mono ?_
          rintro e W7 ⟨rfl, hb7⟩
          have HX7 := hid (HXR.out.below hb7)
          have HB7 := hid (HBR.out.trans (hb7.mono HBR.out.size))
          have g0 := (HX7.out.get6 hlt).1; have g1 := (HX7.out.get6 hlt).2
          clear hf0 hb7
          gi_wp2
          go_roundw
          case rel => exact ⟨k + 1, by omega, by go_num, mid_set HX7.out hlt (by rw [HR.out]; simp), HB7.out.setCell (p := ⟨W3.heap.size, k, none⟩) (Nat.le_refl _) _⟩
          case measure => simp [intOf]; omega
        · rw [hr] at g0
          have HR := hid hr
          clear hr hbr
          gi_wp2
          refine ⟨(fun f h => by cases h), ?_⟩
          gi_wp2
          go_roundw
          case rel => exact ⟨k + 1, by omega, by go_num, mid_set HXR.out hlt (by rw [HR.out]; simp), HBR.out.setCell (p := ⟨W3.heap.size, k, none⟩) (Nat.le_refl _) _⟩
          case measure => simp [intOf]; omega
      · have hk6 : k = 6 := by omega
        subst hk6
        have heq := fun V => eq6 (midF s g x 6 0) (midF s g x 6 1) (midF s g x 6 2) (midF s g x 6 3) (midF s g x 6 4) (midF s g x 6 5) V
        have hok : (midF s g x 6 0 && (midF s g x 6 1 && (midF s g x 6 2 && (midF s g x 6 3 && (midF s g x 6 4 && midF s g x 6 5))))) = okT s g x := by simp [midF, okT, all6]
        simp only [hok] at heq
        clear hok hx hbr
        cases hokt : okT s g x
        · rw [hokt] at heq
          have HOKT := hid hokt; have HE6 := hid heq
          clear hokt heq
          gi_wp2
          refine wpIn_region_held_round (S := fun V => BoxIs W3.heap.size (B6 (midF s g x 6)) V ∧ Below W3.heap.size W3 V) (by kernel_rfl) (by kernel_rfl) (fun ⟨_, _, h⟩ => h) ⟨HXR.out.below (Below.refl _ _).drew, HBR.out.drew⟩ (fun hS => ?_)
          simp only [List.size_toArray, List.length_cons, List.length_nil, Nat.reduceAdd, Array.replicate_succ, Array.replicate_zero, List.push_toArray, List.nil_append, List.cons_append]
          refine tkH (i := 0) (v := ?_) (fun V hV => ?_) ?_
          rotate_left
          · have f0 := (hV.1.get6 (k := 0) (by decide)).1; have f1 := (hV.1.get6 (k := 1) (by decide)).1; have f2 := (hV.1.get6 (k := 2) (by decide)).1; have f3 := (hV.1.get6 (k := 3) (by decide)).1; have f4 := (hV.1.get6 (k := 4) (by decide)).1; have f5 := (hV.1.get6 (k := 5) (by decide)).1; go_simp
            try with_reducible rfl
          try simp only [Act.put, List.getElem_toArray, List.getElem_cons_zero, List.setIfInBounds_toArray, List.set_cons_zero, List.set_cons_succ]
          refine wpAnyH_ready (rs := [1]) (by kernel_rfl) (by simp) ?_
          refine AllReadyH.cons (o := _) rfl (fun K hK => ?_) AllReadyH.nil
          go_simp
          (with_reducible refine (every6_any _).mono ?_)
          rintro e W9 ⟨rfl, hb9⟩
          refine hK.out _ _ (⟨hS.1.below hb9, hS.2.trans (hb9.mono hS.2.size)⟩) (fun hS => ?_)
          clear hK K
          try simp only [List.setIfInBounds_toArray, List.set_cons_zero, List.set_cons_succ]
          refine tkH (i := 2) (v := ?_) (fun V hV => ?_) ?_
          rotate_left
          · have q := HE6.out V; go_simp
            try with_reducible rfl
          try simp only [Act.put, List.getElem_toArray, List.getElem_cons_zero, List.getElem_cons_succ, List.setIfInBounds_toArray, List.set_cons_zero, List.set_cons_succ]
          refine wpAnyH_done (by kernel_rfl) ?_ _
          have HS9 := hid hS
          clear hS
          gi_wp2
          exact ⟨HN3.out.trans ((near_below HS9.out.2).mono (fun _ _ h => h.elim)), by rw [HLENE.out]; exact HWK3.out.near (near_below HS9.out.2) (fun _ h => h.elim) hb hm, HP3.out.below HS9.out.2, HF3.out.below HS9.out.2, HX3.out.below HS9.out.2, by rw [List.all_append, HAL.out]; simp only [List.all_cons, HOKT.out, Bool.not_false, List.all_nil, Bool.and_self]⟩
        · rw [hokt] at heq
          have HOKT := hid hokt; have HE6 := hid heq
          clear hokt heq
          gi_wp2
          refine wpIn_region_held_round (S := fun V => BoxIs W3.heap.size (B6 (midF s g x 6)) V ∧ Below W3.heap.size W3 V) (by kernel_rfl) (by kernel_rfl) (fun ⟨_, _, h⟩ => h) ⟨HXR.out.below (Below.refl _ _).drew, HBR.out.drew⟩ (fun hS => ?_)
          simp only [List.size_toArray, List.length_cons, List.length_nil, Nat.reduceAdd, Array.replicate_succ, Array.replicate_zero, List.push_toArray, List.nil_append, List.cons_append]
          refine tkH (i := 0) (v := ?_) (fun V hV => ?_) ?_
          rotate_left
          · have f0 := (hV.1.get6 (k := 0) (by decide)).1; have f1 := (hV.1.get6 (k := 1) (by decide)).1; have f2 := (hV.1.get6 (k := 2) (by decide)).1; have f3 := (hV.1.get6 (k := 3) (by decide)).1; have f4 := (hV.1.get6 (k := 4) (by decide)).1; have f5 := (hV.1.get6 (k := 5) (by decide)).1; go_simp
            try with_reducible rfl
          try simp only [Act.put, List.getElem_toArray, List.getElem_cons_zero, List.setIfInBounds_toArray, List.set_cons_zero, List.set_cons_succ]
          refine wpAnyH_ready (rs := [1]) (by kernel_rfl) (by simp) ?_
          refine AllReadyH.cons (o := _) rfl (fun K hK => ?_) AllReadyH.nil
          go_simp
          (with_reducible refine (every6_any _).mono ?_)
          rintro e W9 ⟨rfl, hb9⟩
          refine hK.out _ _ (⟨hS.1.below hb9, hS.2.trans (hb9.mono hS.2.size)⟩) (fun hS => ?_)
          clear hK K
          try simp only [List.setIfInBounds_toArray, List.set_cons_zero, List.set_cons_succ]
          refine tkH (i := 2) (v := ?_) (fun V hV => ?_) ?_
          rotate_left
          · have q := HE6.out V; go_simp
            try with_reducible rfl
          try simp only [Act.put, List.getElem_toArray, List.getElem_cons_zero, List.getElem_cons_succ, List.setIfInBounds_toArray, List.set_cons_zero, List.set_cons_succ]
          refine wpAnyH_done (by kernel_rfl) ?_ _
          have HS9 := hid hS
          clear hS
          have q0 := (HX3.out.near (near_below HS9.out.2) (fun h => h.elim)).2 0 (.bool false) rfl
          have q1 := q0.1; have q2 := q0.2
          clear q0
          gi_wp2
          exact ⟨((HN3.out.trans ((near_below HS9.out.2).mono (fun _ _ h => h.elim))).setCell (p := ⟨w.heap.size + 2, 0, none⟩) (fun _ => .inr rfl) _), by simp only [List.any_append, List.any_cons, HOKT.out, Bool.true_or, Bool.or_true], by rw [HLENE.out]; exact (HWK3.out.near (near_below HS9.out.2) (fun _ h => h.elim) hb hm).near ((Near.refl (fun k => k = w.heap.size + 2) _).setCell (p := ⟨w.heap.size + 2, 0, none⟩) (fun _ => rfl) _) (fun k hk => by omega) hb hm, World.cell?_setCell_same' _ _ _ (by rw [q1]; rfl)⟩
  case done =>
    rintro W ⟨hwk, hP, hF, hX, hal⟩ hK hsz
    have HWK := hid hwk; have HX := hid hX; have HAL := hid hal
    have HZ5 : Hid (W5.heap.size = w.heap.size + 4) := hz5
    have g0 := (HX.out.2 0 (.bool false) rfl).1; have g1 := (HX.out.2 0 (.bool false) rfl).2
    clear hwk hP hF hX hal hz5 hz0 hb5 hb05 hI5 hsz
    gi_wp2
    have hz5 := HZ5.out
    have hK' : (W.setCell ⟨w.heap.size + 2, 0, none⟩ (.bool false)).heap[W5.heap.size]? = some (.deferred (some [])) := (Below.heap_setCell _ _ _ _ (by show _ ≠ w.heap.size + 2; omega)).trans hK
    refine ⟨by simp, .inl ⟨_, _, rfl, run_takeDeferred hK', ?_⟩⟩
    have hX2 : BoxIs (w.heap.size + 2) #[.bool false] (W.setCell ⟨w.heap.size + 2, 0, none⟩ (.bool false)) := HX.out.put (j := 0) _
    have hc5 := ((hX2.near (Near.putObj W5.heap.size (.deferred none)) (by omega)).2 0 (.bool false) rfl).1
    refine ⟨.bool false, ?_, ?_, ?_⟩
    · simp [results, Try.f117, go_sem, hc5]
    · have : togetherB s g = false := by
        rw [togetherB, List.any_eq_false]
        intro q hq
        have := List.all_eq_true.1 HAL.out q hq
        simpa using this
      rw [this]
    · exact ((HWK.out.near ((Near.refl (fun k => k = w.heap.size + 2) _).setCell (p := ⟨w.heap.size + 2, 0, none⟩) (fun _ => rfl) _) (fun k hk => by omega) hb hm).near (Near.putObj _ _) (fun k hk => by omega) hb hm).more (by have := HLEN.out; omega)
  case stop =>
    rintro pre rest W hall ⟨hm1, hwk, hcW⟩ hK hsz
    have HM1 := hid hm1
    have HWK := hid hwk
    have HAL := hid hall
    have HZ5 : Hid (W5.heap.size = w.heap.size + 4) := hz5
    have HCW := hid hcW
    clear hm1 hall hz5 hz0 hb5 hb05 hI5 hsz hcW hwk
    gi_wp2
    have hz5 := HZ5.out
    refine ⟨by simp, .inl ⟨_, _, rfl, run_takeDeferred hK, ?_⟩⟩
    have hc5 : (W.putObj W5.heap.size (.deferred none)).cell? ⟨w.heap.size + 2, 0, none⟩ = some (.bool true) :=
      ((Near.putObj W5.heap.size (.deferred none)).cell (World.block_lt_of_cell? _ _ HCW.out) (by show ¬ (w.heap.size + 2 = _); omega)).trans HCW.out
    refine ⟨.bool true, ?_, ?_, ?_⟩
    · simp [results, Try.f117, go_sem, hc5]
    · have : togetherB s g = true := by rw [togetherB, ← HAL.out, List.any_append, HM1.out]; rfl
      rw [this]
    · exact (HWK.out.near (Near.putObj _ _) (fun k hk => by omega) hb hm).more (by have h1 := HLEN.out; rw [← HAL.out, List.length_append] at h1; omega)

set_option maxRecDepth 40000 in
set_option maxHeartbeats 8000000 in
theorem without_any (s : Sto) (p : Option Addr) (n c b bm nn : Nat) (q : Option Addr) (m d : Nat) (l : List Int) (w : World) (hl : IntsAt w q m l) (hq : ∀ a, q = some a → 0 < m → a.block ≠ bm) (hml : m ≤ 100000) (hw : WK s p n c b bm nn w w) (hcs : CrdsAt w p n s.cards) (hpb : ∀ a, p = some a → 0 < n → a.block ≠ bm) (ok : OkS s) (hb : b < w.heap.size) (hm : bm < w.heap.size) (hbm : b ≠ bm) (hnn : nn + 2000 < maxLen) :
    Calls Try.prog 84 #[.pointer (some ⟨b, 0, none⟩), .slice q m d] w (TogPost s p n c b bm nn w (togetherB s fun i => !hasB l i)) := by
  have hmf : ∀ (fn : Fn) (first cap : Array Value) (w : World), (Instr.makeFunc fn first cap).run Try.prog w = .ok (.func fn first cap) w := fun _ _ _ _ => rfl
  obtain ⟨W0, hW0⟩ : ∃ V, w.alloc (.cells #[.slice q m d] 51) = V := ⟨_, rfl⟩
  have hb0 : Below w.heap.size w W0 := by rw [← hW0]; exact (Below.refl _ _).alloc (Nat.le_refl _) _
  have hx0 : BoxIs w.heap.size #[.slice q m d] W0 := by rw [← hW0]; exact BoxIs.start _ _ _
  have hz0 : W0.heap.size = w.heap.size + 1 := by rw [← hW0]; simp
  have hwk : WK s p n c b bm nn W0 W0 := by
    obtain ⟨_, h2, M, h3, h4⟩ := hw
    exact ⟨Near.refl _ _, h2.below hb0, M, h3.below hb0, h4⟩
  have HT := hid (together118_any s p n c b bm nn w.heap.size (fun i => !hasB l i) W0 hwk (hcs.below hb0) hpb ok (by omega) (by omega) hbm hnn (fun W hW i hi => by
    have hc := ((hx0.near hW (by omega)).2 0 (.slice q m d) rfl).1
    exact is118_any q m d w.heap.size l i W hc ((hl.below hb0).kept (fun a ha h0 hlt => hW.block _ hlt (hq a ha h0))) hml))
  have HB0 := hid hb0
  have HW := hid hw
  clear hb0 hx0 hz0 hwk hcs hl hw
  go_enter Try.func84, Try.ntmps84
  go_wp2_with fail
  refine HT.out.mono ?_
  rintro e w1 ⟨rfl, hwk⟩
  have HWK := hid hwk
  clear hwk hmf hW0
  go_wp2_with fail
  go_ret
  exact ⟨rfl, (near_below HB0.out |>.mono (fun _ _ h => h.elim)).trans HWK.out.1, HWK.out.2⟩

set_option maxRecDepth 40000 in
set_option maxHeartbeats 8000000 in
theorem clash_any (s : Sto) (p : Option Addr) (n c b bm nn : Nat) (q : Option Addr) (m d : Nat) (l : List Int) (w : World) (hl : IntsAt w q m l) (hq : ∀ a, q = some a → 0 < m → a.block ≠ bm) (hml : m ≤ 100000) (hw : WK s p n c b bm nn w w) (hcs : CrdsAt w p n s.cards) (hpb : ∀ a, p = some a → 0 < n → a.block ≠ bm) (ok : OkS s) (hb : b < w.heap.size) (hm : bm < w.heap.size) (hbm : b ≠ bm) (hnn : nn + 2000 < maxLen) :
    Calls Try.prog 86 #[.pointer (some ⟨b, 0, none⟩), .slice q m d] w (TogPost s p n c b bm nn w (!togetherB s fun i => hasB l i)) := by
  have hmf : ∀ (fn : Fn) (first cap : Array Value) (w : World), (Instr.makeFunc fn first cap).run Try.prog w = .ok (.func fn first cap) w := fun _ _ _ _ => rfl
  obtain ⟨W0, hW0⟩ : ∃ V, w.alloc (.cells #[.slice q m d] 51) = V := ⟨_, rfl⟩
  have hb0 : Below w.heap.size w W0 := by rw [← hW0]; exact (Below.refl _ _).alloc (Nat.le_refl _) _
  have hx0 : BoxIs w.heap.size #[.slice q m d] W0 := by rw [← hW0]; exact BoxIs.start _ _ _
  have hz0 : W0.heap.size = w.heap.size + 1 := by rw [← hW0]; simp
  have hwk : WK s p n c b bm nn W0 W0 := by
    obtain ⟨_, h2, M, h3, h4⟩ := hw
    exact ⟨Near.refl _ _, h2.below hb0, M, h3.below hb0, h4⟩
  have HT := hid (together122_any s p n c b bm nn w.heap.size (fun i => hasB l i) W0 hwk (hcs.below hb0) hpb ok (by omega) (by omega) hbm hnn (fun W hW i hi => by
    have hc := ((hx0.near hW (by omega)).2 0 (.slice q m d) rfl).1
    exact is122_any q m d w.heap.size l i W hc ((hl.below hb0).kept (fun a ha h0 hlt => hW.block _ hlt (hq a ha h0))) hml))
  have HB0 := hid hb0
  have HW := hid hw
  clear hb0 hx0 hz0 hwk hcs hl hw
  go_enter Try.func86, Try.ntmps86
  go_wp2_with fail
  refine HT.out.mono ?_
  rintro e w1 ⟨rfl, hwk⟩
  have HWK := hid hwk
  clear hwk hmf hW0
  go_wp2_with fail
  go_ret
  exact ⟨rfl, (near_below HB0.out |>.mono (fun _ _ h => h.elim)).trans HWK.out.1, HWK.out.2⟩
end Go.Proofs.Ytfnefkenheglhaa
