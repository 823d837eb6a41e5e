/- The statements' small helpers: lists, ranges, words, what a treaty keeps, whether a programme has a truth. Condition: as each one says. -/
import Derived.Test.YtaioobhblfnlaaaP11
namespace Go.Proofs.Ytaioobhblfnlaaa
open Go.RowKit


theorem keepsI_eq (ts : List Tre) (f : Nat → Int) (j : Nat) : keepsF ts f j = subI f j 0 ts (f j) := rfl
/-- A list of words, as a slice reads. -/
def WordsAt (w : World) (p : Option Addr) (n : Nat) (l : List Int) : Prop :=
  n = l.length ∧ ∀ i v, l[i]? = some v → (0 ≤ v ∧ v ≤ 65535) ∧ ∃ b off, p = some ⟨b, off, none⟩ ∧ b < w.heap.size ∧ w.cell? ⟨b, off + i, none⟩ = some (.int .u16 v)
theorem WordsAt.below {w w' : World} {p : Option Addr} {n : Nat} {l : List Int} (h : WordsAt w p n l) (hb : Below w.heap.size w w') : WordsAt w' p n l :=
  ⟨h.1, fun i v hi => by
    obtain ⟨h1, b, off, hp, hlt, hc⟩ := h.2 i v hi
    exact ⟨h1, b, off, hp, Nat.lt_of_lt_of_le hlt hb.size, (hb.cell (p := ⟨b, off + i, none⟩) hlt).trans hc⟩⟩
def wordV (l : List Int) (k : Nat) : Int := if l.length = 0 then 0 else (l[k % l.length]?).getD 0

theorem WordsAt.at {w : World} {p : Option Addr} {n : Nat} {l : List Int} (h : WordsAt w p n l) {i : Nat} (hi : i < n) : ∃ v, l[i]? = some v ∧ (0 ≤ v ∧ v ≤ 65535) ∧ ∃ b off, p = some ⟨b, off, none⟩ ∧ b < w.heap.size ∧ w.cell? ⟨b, off + i, none⟩ = some (.int .u16 v) := by
  have hk : l[i]? = some (l[i]'(by have := h.1; omega)) := List.getElem?_eq_getElem _
  exact ⟨_, hk, h.2 i _ hk⟩

theorem wordV_bd {w : World} {p : Option Addr} {n : Nat} {l : List Int} (h : WordsAt w p n l) (k : Nat) : 0 ≤ wordV l k ∧ wordV l k ≤ 65535 := by
  unfold wordV
  split
  · omega
  · rename_i h0
    obtain ⟨v, hv, hb, _⟩ := h.at (i := k % l.length) (by rw [h.1]; exact Nat.mod_lt _ (by omega))
    rw [hv]
    exact hb

set_option maxRecDepth 20000 in
set_option maxHeartbeats 1000000 in
theorem word_any (p : Option Addr) (n c : Nat) (l : List Int) (k : Nat) (w : World) (hl : WordsAt w p n l) (hk : k ≤ 1000) :
    Calls Try.prog 101 #[.slice p n c, .int .i64 (k : Int)] w fun e w' => e = .returned (.int .i64 (wordV l k)) ∧ w' = w := by
  by_cases h0 : n = 0
  · have HV : Hid (wordV l k = 0) := by show _ = _; rw [wordV, if_pos (by rw [← hl.1]; exact h0)]
    subst h0
    clear hl
    go_enter Try.func101, Try.ntmps101
    go_wp2_with fail
    go_ret
    exact ⟨ret_int HV.out.symm, rfl⟩
  · obtain ⟨i, hi⟩ : ∃ i, k % n = i := ⟨_, rfl⟩
    have hin : i < n := by rw [← hi]; exact Nat.mod_lt _ (by omega)
    obtain ⟨v, hv, hb, b1, o1, rfl, hlt, hc⟩ := hl.at hin
    have HV : Hid (wordV l k = v) := by show _ = _; rw [wordV, if_neg (by rw [← hl.1]; exact h0), ← hl.1, hi, hv]; rfl
    have hmod : (k : Int).tmod (n : Int) = (i : Int) := by rw [Int.tmod_eq_emod_of_nonneg (by omega), ← hi]; omega
    have hw1 : IntKind.i64.wrap (i : Int) = (i : Int) := IntWalk.i64_in _ (by have := Nat.mod_le k n; omega)
    have hw2 : IntKind.i64.wrap v = v := IntWalk.i64_in _ (by omega)
    have hn1 : ¬ (n : Int) = 0 := by omega
    clear hl hi hv h0
    go_enter Try.func101, Try.ntmps101
    go_wp2_with fail
    go_ret
    exact ⟨ret_int HV.out.symm, rfl⟩

theorem between_any (a b : Int) (w : World) : Calls Try.prog 50 #[.int .i64 a, .int .i64 b] w fun e w' => e = .returned (.agg #[.int .i64 a, .int .i64 b]) ∧ Below w.heap.size w w' := by
  have hx := BoxIs.start w #[.int .i64 0, .int .i64 0] 51
  have x0 := (hx.2 0 (.int .i64 0) rfl).1; have x1 := (hx.2 1 (.int .i64 0) rfl).1; have f0 := (hx.2 0 (.int .i64 0) rfl).2; have f1 := (hx.2 1 (.int .i64 0) rfl).2
  have HR := hid ((hx.put (j := 0) (.int .i64 a)).put (j := 1) (.int .i64 b))
  clear hx
  go_enter Try.func50, Try.ntmps50
  go_wp2_with fail
  have y0 := (HR.out.2 0 (.int .i64 a) rfl).1; have y1 := (HR.out.2 1 (.int .i64 b) rfl).1
  refine bodyPost_ret (v := .agg #[.int .i64 a, .int .i64 b]) (by simp [results, Try.f50, go_sem]) rfl ?_
  first
    | exact ⟨rfl, Below.alloc (Below.refl _ _) (Nat.le_refl _) _⟩
    | exact ⟨rfl, ((Below.alloc (Below.refl _ _) (Nat.le_refl _) _).setCell (p := ⟨w.heap.size, 0, none⟩) (Nat.le_refl _) _).setCell (p := ⟨w.heap.size, 1, none⟩) (Nat.le_refl _) _⟩

theorem to_any (r : Rng) (w : World) : Calls Try.prog 34 #[.agg #[.int .i64 r.lo, .int .i64 r.hi]] w fun e w' => e = .returned (.agg #[.int .i64 r.lo, .int .i64 r.hi]) ∧ Below w.heap.size w w' := by
  obtain ⟨W0, hW0⟩ : ∃ V, (w.alloc (.cells #[.int .i64 r.lo, .int .i64 r.hi] 55)).alloc (.cells #[.int .i64 0, .int .i64 0] 51) = V := ⟨_, rfl⟩
  have hb : Boxed1 w #[.int .i64 r.lo, .int .i64 r.hi] 55 W0 := by rw [← hW0]; exact (Boxed1.start _ _ _).alloc _
  have hx : BoxIs (w.heap.size + 1) #[.int .i64 0, .int .i64 0] W0 := by
    have h := BoxIs.start (w.alloc (.cells #[.int .i64 r.lo, .int .i64 r.hi] 55)) #[.int .i64 0, .int .i64 0] 51
    rw [World.size_alloc, hW0] at h; exact h
  have e0 := (RngAt.of hb.cell).c0; have e1 := (RngAt.of hb.cell).c1
  have x0 := (hx.2 0 (.int .i64 0) rfl).1; have x1 := (hx.2 1 (.int .i64 0) rfl).1; have f0 := (hx.2 0 (.int .i64 0) rfl).2; have f1 := (hx.2 1 (.int .i64 0) rfl).2
  have HB := hid hb.below
  have HR := hid ((hx.put (j := 0) (.int .i64 r.lo)).put (j := 1) (.int .i64 r.hi))
  clear hb hx
  go_enter Try.func34, Try.ntmps34
  go_wp2_with fail
  have y0 := (HR.out.2 0 (.int .i64 r.lo) rfl).1; have y1 := (HR.out.2 1 (.int .i64 r.hi) rfl).1
  refine bodyPost_ret (v := .agg #[.int .i64 r.lo, .int .i64 r.hi]) (by simp [results, Try.f34, go_sem, y0, y1]) rfl ?_
  exact ⟨rfl, (HB.out.setCell (p := ⟨w.heap.size + 1, 0, none⟩) (by show w.heap.size ≤ w.heap.size + 1; omega) _).setCell (p := ⟨w.heap.size + 1, 1, none⟩) (by show w.heap.size ≤ w.heap.size + 1; omega) _⟩


set_option maxRecDepth 20000 in
set_option maxHeartbeats 1000000 in
theorem list_any (p : Option Addr) (n c : Nat) (l : List Int) (w : World) (hl : IntsAt w p n l) (hn : n ≤ 1000) :
    Calls Try.prog 22 #[.slice p n c] w (RetInts w l) := by
  have HL := hid hl
  clear hl
  cases p with
  | none =>
    have hn0 : n = 0 := by
      refine Classical.byContradiction fun h => ?_
      obtain ⟨b, off, h1, _⟩ := HL.out.2 0 (by omega)
      cases h1
    have hl0 : l = [] := List.length_eq_zero_iff.1 (by rw [← HL.out.1, hn0])
    subst hn0
    subst hl0
    go_enter Try.func22, Try.ntmps22
    go_wp2
    go_ret
    exact ⟨_, rfl, ownInts_nil _ _, Below.refl _ _⟩
  | some ad =>
    go_enter Try.func22, Try.ntmps22
    go_wp2_with (at_builtin; refine append_ints (by rfl) (.const (.slice none 0 0)) (.tmp 3) (by rfl) w.heap.size _ [] ad n c l (ownInts_nil _ _) (by rfl) (by rfl) HL.out (by simp) (by omega) (Nat.le_refl _) ?_; intro v' w' ho' hb')
    go_ret
    exact ⟨_, rfl, ho', hb'⟩
/-- Whether a range is in another one. -/
def insideB (a b : Rng) : Bool := decide (b.lo ≤ a.lo) && decide (a.hi ≤ b.hi)
theorem inside_iff {a b : Rng} : insideB a b = true ↔ b.lo ≤ a.lo ∧ a.hi ≤ b.hi := by simp [insideB]

set_option maxHeartbeats 1000000 in
theorem in55_any (n : Int) (r : Rng) (w : World) : Calls Try.prog 55 #[.int .i64 n, .agg #[.int .i64 r.lo, .int .i64 r.hi]] w fun e w' => e = .returned (.bool (inB n r.lo r.hi)) ∧ Below w.heap.size w w' := by
  have HB : Hid (Below w.heap.size w (w.alloc (.cells #[.int .i64 r.lo, .int .i64 r.hi] 51))) := hid ((Below.refl _ _).alloc (Nat.le_refl _) _)
  by_cases h1 : r.lo ≤ n
  · by_cases h2 : n ≤ r.hi
    · go_enter Try.func55, Try.ntmps55
      go_wp2_with fail
      go_ret
      exact ⟨ret_bool (by simp [inB, h1, h2]), HB.out⟩
    · go_enter Try.func55, Try.ntmps55
      go_wp2_with fail
      go_ret
      exact ⟨ret_bool (by simp [inB, h1, h2]), HB.out⟩
  · go_enter Try.func55, Try.ntmps55
    go_wp2_with fail
    go_ret
    exact ⟨ret_bool (by simp [inB]; omega), HB.out⟩

set_option maxHeartbeats 1000000 in
theorem inside_any (a b : Rng) (w : World) : Calls Try.prog 103 #[.agg #[.int .i64 a.lo, .int .i64 a.hi], .agg #[.int .i64 b.lo, .int .i64 b.hi]] w fun e w' => e = .returned (.bool (insideB a b)) ∧ Below w.heap.size w w' := by
  have HB : Hid (Below w.heap.size w ((w.alloc (.cells #[.int .i64 a.lo, .int .i64 a.hi] 51)).alloc (.cells #[.int .i64 b.lo, .int .i64 b.hi] 51))) := hid (((Below.refl _ _).alloc (Nat.le_refl _) _).alloc (by simp) _)
  by_cases h1 : b.lo ≤ a.lo
  · by_cases h2 : a.hi ≤ b.hi
    · go_enter Try.func103, Try.ntmps103
      go_wp2_with fail
      go_ret
      exact ⟨ret_bool (by simp [insideB, h1, h2]), HB.out⟩
    · go_enter Try.func103, Try.ntmps103
      go_wp2_with fail
      go_ret
      exact ⟨ret_bool (by simp [insideB, h1, h2]), HB.out⟩
  · go_enter Try.func103, Try.ntmps103
    go_wp2_with fail
    go_ret
    exact ⟨ret_bool (by simp [insideB]; omega), HB.out⟩

set_option maxRecDepth 20000 in
set_option maxHeartbeats 4000000 in
theorem keepsL_any (p : Prg) (lp : Option Addr) (ln lc : Nat) (tp : Option Addr) (tn tc : Nat) (rp : Option Addr) (rn rc : Nat) (q : Option Addr) (c : Nat) (f : Nat → Int) (j : Nat) (w : World) (hp : PrgAt w p lp ln tp tn rp rn) (hn : tn ≤ 5) (hj : j < tn) (hl : IntsAt w q tn (ofF f tn)) (hf : ∀ i, 0 ≤ f i ∧ f i ≤ 100000) :
    Calls Try.prog 54 #[.agg #[.slice lp ln lc, .int .i64 p.reserve, .slice tp tn tc, .slice rp rn rc], .slice q tn c, .int .i64 (j : Int)] w fun e w' => e = .returned (.int .i64 (keepsF p.ts f j)) ∧ Below w.heap.size w w' := by
  have HT := hid hp.t
  have HF := hid hf
  have HL := hid hl
  clear hp hf
  have H0 : Hid (Boxed1 w #[.slice lp ln lc, .int .i64 p.reserve, .slice tp tn tc, .slice rp rn rc] 26 (w.alloc (.cells #[.slice lp ln lc, .int .i64 p.reserve, .slice tp tn tc, .slice rp rn rc] 26))) := hid (Boxed1.start _ _ _)
  obtain ⟨b1, o1, rfl, hb1, hc⟩ := (hl.below H0.out.below).at hj
  rw [ofF_at f hj] at hc
  have hfj := HF.out j
  clear hl
  go_enter Try.func54, Try.ntmps54
  go_wp2
  go_loopw [7, 8] (fun s i wr => ∃ (k : Nat) (n : Int), k ≤ tn ∧ s = .int .i64 n ∧ i = .int .i64 k ∧ (-100000 * k ≤ n ∧ n ≤ 100000) ∧ subI f j k (p.ts.drop k) n = keepsF p.ts f j ∧ Boxed1 w #[.slice lp ln lc, .int .i64 p.reserve, .slice tp tn tc, .slice rp rn rc] 26 wr) (fun _ i _ => tn - (intOf i).toNat)
  case atStart => exact ⟨0, f j, by omega, rfl, rfl, by omega, rfl, H0.out⟩
  case round =>
    clear hc
    obtain ⟨k, n, hk, rfl, rfl, hn1, hr, hb⟩ := hrel
    have HR := hid hr
    have HB := hid hb
    have e2 := hb.cell 2 (v := .slice tp tn tc) rfl
    clear hr
    by_cases hlt : k < tn
    · obtain ⟨t, ht, b2, o2, rfl, hb2, hc0, hc1, hc2, hc3, hc4, hc5, hc6⟩ := (HT.out.below hb.below).tre hlt
      obtain ⟨b3, o3, e3, _, hd⟩ := (HL.out.below hb.below).at hlt
      cases e3
      rw [ofF_at f hlt] at hd
      have hfk := HF.out k
      have HD := hid (drop_at' ht)
      clear ht hb
      by_cases ho : t.off = (j : Int)
      · have HG : Hid (subI f j (k + 1) (p.ts.drop (k + 1)) (n - f k) = keepsF p.ts f j) := by show _ = _; rw [← HR.out, HD.out, subI, if_pos ho]
        have hbe : (t.off == (j : Int)) = true := by simpa using ho
        clear ho
        go_wp2_with fail
        go_roundw
        case rel => exact ⟨k + 1, n - f k, by omega, rfl, by go_num, by omega, HG.out, HB.out⟩
        case measure => simp [intOf]; omega
      · have HG : Hid (subI f j (k + 1) (p.ts.drop (k + 1)) n = keepsF p.ts f j) := by show _ = _; rw [← HR.out, HD.out, subI, if_neg ho]
        have hbe : (t.off == (j : Int)) = false := by simpa using ho
        clear ho
        go_wp2_with fail
        go_roundw
        case rel => exact ⟨k + 1, n, by omega, rfl, by go_num, by omega, HG.out, HB.out⟩
        case measure => simp [intOf]; omega
    · have HG : Hid (n = keepsF p.ts f j) := by show _ = _; rw [← HR.out, List.drop_of_length_le (by have := HT.out.1; omega), subI]
      go_wp2_with fail
      go_ret
      exact ⟨ret_int HG.out, HB.out.below⟩

theorem pow32 {k : Nat} (hk : k ≤ 5) : 2 ^ k - 1 < 4096 := by have := Nat.pow_le_pow_right (n := 2) (by decide) hk; omega
theorem allP_lt {p : Prg} (ok : OkP p) : ∀ a ∈ allP p, a < 4096 := fun a ha => by
  unfold allP allTo at ha
  obtain ⟨m, _, rfl⟩ := List.mem_map.1 ha
  have h1 : rightN p (nthL p.losses m) < 2 ^ p.reps.length := numOf_lt _ _
  have h2 := Nat.pow_le_pow_right (n := 2) (by decide) ok.k5
  omega
theorem allP_len {p : Prg} (ok : OkP p) : (castL (allP p)).length ≤ 1000000 := by
  unfold castL allP allTo
  rw [List.length_map, List.length_map, List.length_range]
  have := ok.many; omega

set_option maxRecDepth 40000 in
set_option maxHeartbeats 8000000 in
theorem sure_any (p : Prg) (lp : Option Addr) (ln lc : Nat) (tp : Option Addr) (tn tc : Nat) (rp : Option Addr) (rn rc : Nat) (w : World) (hp : PrgAt w p lp ln tp tn rp rn) : Calls Try.prog 31 #[.agg #[.slice lp ln lc, .int .i64 p.reserve, .slice tp tn tc, .slice rp rn rc]] w fun e w' => e = .returned (.int .i64 (errP p)) ∧ Below w.heap.size w w' := by
  have HP := hid hp
  have HFL := hid (fun W (hW : Below w.heap.size w W) => faultL_any p lp ln lc tp tn tc rp rn rc W (hp.below hW))
  clear hp
  have H0 : Hid (Boxed1 w #[.slice lp ln lc, .int .i64 p.reserve, .slice tp tn tc, .slice rp rn rc] 26 (w.alloc (.cells #[.slice lp ln lc, .int .i64 p.reserve, .slice tp tn tc, .slice rp rn rc] 26))) := hid (Boxed1.start _ _ _)
  go_enter Try.func31, Try.ntmps31
  have e0 := H0.out.cell 0 (v := .slice lp ln lc) rfl; have e1 := H0.out.cell 1 (v := .int .i64 p.reserve) rfl; have e2 := H0.out.cell 2 (v := .slice tp tn tc) rfl; have e3 := H0.out.cell 3 (v := .slice rp rn rc) rfl
  go_wp2_with fail
  (with_reducible refine (HFL.out _ ?_).mono ?_)
  · exact H0.out.below
  rintro e w1 ⟨rfl, hb⟩
  have H1 := hid (H0.out.step hb)
  clear e0 e1 e2 e3 hb 
  by_cases hF : faultP p = 0
  · have HOK := hid (fault_iff.1 hF)
    have HE := hid (errP_ok hF)
    have hrn5 : rn ≤ 5 := by rw [HP.out.r.1]; exact HOK.out.k5
    have HRN := hid HP.out.r.1
    have HCF := hid (can_full HOK.out)
    have HAL := hid (allP_len HOK.out)
    have HLT := hid (allP_lt HOK.out)
    rw [hF]
    clear hF
    go_upto_region 4 with fail
    refine wp_region_held_drew (S := fun V => Boxed1 w #[.slice lp ln lc, .int .i64 p.reserve, .slice tp tn tc, .slice rp rn rc] 26 V) (by kernel_rfl) (H1.out.drew) (fun hS => ?_)
    simp only [List.size_toArray, List.length_cons, List.length_nil, Nat.reduceAdd, Array.replicate_succ, Array.replicate_zero, List.push_toArray, List.nil_append, List.cons_append]
    refine tkH (i := 0) (v := ?_) (fun V hV => ?_) ?_
    rotate_left
    · have e0 := hV.cell 0 (v := .slice lp ln lc) rfl; have e1 := hV.cell 1 (v := .int .i64 p.reserve) rfl; have e2 := hV.cell 2 (v := .slice tp tn tc) rfl; have e3 := hV.cell 3 (v := .slice rp rn rc) rfl; go_simp
      try with_reducible rfl
    try simp only [Act.put, List.getElem_toArray, List.getElem_cons_zero, List.setIfInBounds_toArray, List.set_cons_zero, List.set_cons_succ]
    refine tkH (i := 2) (v := ?_) (fun V hV => ?_) ?_
    rotate_left
    · have e0 := hV.cell 0 (v := .slice lp ln lc) rfl; have e1 := hV.cell 1 (v := .int .i64 p.reserve) rfl; have e2 := hV.cell 2 (v := .slice tp tn tc) rfl; have e3 := hV.cell 3 (v := .slice rp rn rc) rfl; go_simp
      try with_reducible rfl
    try simp only [Act.put, List.getElem_toArray, List.getElem_cons_zero, List.getElem_cons_succ, List.setIfInBounds_toArray, List.set_cons_zero, List.set_cons_succ]
    refine wpAnyH_ready (rs := [1]) (by kernel_rfl) (by simp) ?_
    refine AllReadyH.cons (o := _) rfl (fun K hK => ?_) AllReadyH.nil
    go_simp
    (with_reducible refine (all_any p lp ln lc tp tn tc rp rn rc _ (HP.out.below hS.below) HOK.out).mono ?_)
    rintro e v1 ⟨v, rfl, hown, hb⟩
    obtain ⟨qa, da, rfl, hia⟩ := hown.slice
    obtain ⟨N, hN⟩ : ∃ N, (castL (allP p)).length = N := ⟨_, rfl⟩
    have HN : Hid (N ≤ 1000000) := hid (by rw [← hN]; exact HAL.out)
    rw [hN] at hia ⊢
    have HIA := hid hia
    clear hown hia hN
    refine hK.out _ _ (hS.step hb) (fun hS => ?_)
    clear hK K
    try simp only [List.setIfInBounds_toArray, List.set_cons_zero, List.set_cons_succ]
    refine wpAnyH_ready (rs := [3]) (by kernel_rfl) (by simp) ?_
    refine AllReadyH.cons (o := _) rfl (fun K hK => ?_) AllReadyH.nil
    go_simp
    (with_reducible refine (full_any p lp ln lc tp tn tc rp rn rc _ (by omega)).mono ?_)
    rintro e v3 ⟨rfl, hb⟩
    replace HIA := hid (HIA.out.below hb)
    have HEV : Hid (everyN rn = ((2 ^ p.reps.length - 1 : Nat) : Int)) := hid (by rw [everyN, HRN.out])
    rw [HEV.out]
    refine hK.out _ _ (hS.step hb) (fun hS => ?_)
    clear hK K
    try simp only [List.setIfInBounds_toArray, List.set_cons_zero, List.set_cons_succ]
    refine wpAnyH_ready (rs := [4]) (by kernel_rfl) (by simp) ?_
    refine AllReadyH.cons (o := _) rfl (fun K hK => ?_) AllReadyH.nil
    go_simp
    (with_reducible refine (can_any qa N da (allP p) (2 ^ p.reps.length - 1) _ HIA.out HN.out HLT.out (pow32 HOK.out.k5)).mono ?_)
    rintro e v4 ⟨rfl, he⟩; subst he
    rw [HCF.out]
    refine hK.out _ _ (hS) (fun hS => ?_)
    clear hK K
    try simp only [List.setIfInBounds_toArray, List.set_cons_zero, List.set_cons_succ]
    refine tkH (i := 5) (v := ?_) (fun V hV => ?_) ?_
    rotate_left
    · go_simp
      try with_reducible rfl
    try simp only [Act.put, List.getElem_toArray, List.getElem_cons_zero, List.getElem_cons_succ, List.setIfInBounds_toArray, List.set_cons_zero, List.set_cons_succ]
    refine wpAnyH_done (by kernel_rfl) ?_ _
    have HS9 := hid hS
    clear hS
    cases hpo : possO p allT []
    · have HEV2 : Hid (errP p = 11) := hid (by rw [HE.out, hpo]; rfl)
      go_wp2_with fail
      go_ret
      exact ⟨ret_int HEV2.out.symm, HS9.out.below⟩
    · have HEV2 : Hid (errP p = 0) := hid (by rw [HE.out, hpo]; rfl)
      go_wp2_with fail
      go_ret
      exact ⟨ret_int HEV2.out.symm, HS9.out.below⟩
  · have HE := hid (errP_bad hF)
    obtain ⟨F, hFF⟩ : ∃ F, faultP p = F := ⟨_, rfl⟩
    rw [hFF] at hF HE ⊢
    have hF1 : (F == 0) = false := by simpa using hF
    have hF2 : (F != 0) = true := by simpa using hF
    clear hFF
    go_wp2_with fail
    go_ret
    exact ⟨ret_int HE.out.symm, H1.out.below⟩
end Go.Proofs.Ytaioobhblfnlaaa
