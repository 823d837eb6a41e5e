/- Package treaty: the iterator over lists with one number of each of some ranges. No condition but small ranges. -/
import Derived.Test.YtaioobhblfnlaaaRan5
import Derived.StillTailTactics
namespace Go.Proofs.Ytaioobhblfnlaaa
open Go.RowKit

theorem yield_any {m : Nat} (m' : Nat) {l : Nat} {args : Array Value} {W : World} {R : Ending → World → Prop} (h : YieldAt Fence.wide m Try.prog l args W R) : YieldAt Fence.wide m' Try.prog l args W R := by
  obtain ⟨fn, tmps, assign, body, hy, hR⟩ := h
  exact ⟨fn, tmps, assign, body, hy, ⟨hR.1, fun c cs _ => hR.2 c cs (fun d h => by cases h)⟩⟩
/-- The iterator at work: its yield, its array, the cells of the array and of the search. -/
structure ItL (W : World) (l0 B n b1 : Nat) (h : List Int) : Prop where
  yl : W.cell? ⟨B, 0, none⟩ = some (.func (.yield l0) #[] #[])
  ar : BoxIs (B + 1) (intsV h) W
  ou : W.cell? ⟨B + 2, 0, none⟩ = some (.slice (some ⟨B + 1, 0, none⟩) n n)
  ch : W.cell? ⟨B + 3, 0, none⟩ = some (.func (.func 131) #[] #[.pointer (some ⟨b1, 0, none⟩), .pointer (some ⟨B, 0, none⟩), .pointer (some ⟨B + 2, 0, none⟩), .pointer (some ⟨B + 3, 0, none⟩)])
theorem ItL.lt {W : World} {l0 B n b1 : Nat} {h : List Int} (k : ItL W l0 B n b1 h) : B + 3 < W.heap.size := World.block_lt_of_cell? _ _ k.ch
theorem ItL.kept {W W' : World} {l0 B n b1 : Nat} {h : List Int} (k : ItL W l0 B n b1 h) (hs : W.heap.size ≤ W'.heap.size) (hb : ∀ i, B ≤ i → i < B + 4 → W'.heap[i]? = W.heap[i]?) : ItL W' l0 B n b1 h :=
  ⟨(World.cell?_of_block (hb B (by omega) (by omega))).trans k.yl, ⟨Nat.lt_of_lt_of_le k.ar.1 hs, fun i v hv => ⟨(World.cell?_of_block (hb (B + 1) (by omega) (by omega))).trans (k.ar.2 i v hv).1, (World.frozen?_of_block (hb (B + 1) (by omega) (by omega))).trans (k.ar.2 i v hv).2⟩⟩,
   (World.cell?_of_block (hb (B + 2) (by omega) (by omega))).trans k.ou, (World.cell?_of_block (hb (B + 3) (by omega) (by omega))).trans k.ch⟩
/-- What the iterator reads. -/
structure SrcL (W : World) (b1 : Nat) (lp : Option Addr) (n lc : Nat) (ls : List Rng) : Prop where
  c : W.cell? ⟨b1, 0, none⟩ = some (.slice lp n lc)
  r : RowsAt cellsR 2 W lp n ls
def RdL (b1 : Nat) (lp : Option Addr) (n : Nat) (k : Nat) : Prop := k = b1 ∨ ∃ a, lp = some a ∧ 0 < n ∧ k = a.block
theorem SrcL.kept {W W' : World} {b1 : Nat} {lp : Option Addr} {n lc : Nat} {ls : List Rng} (h : SrcL W b1 lp n lc ls) (hs : W.heap.size ≤ W'.heap.size) (hb : ∀ i, RdL b1 lp n i → i < W.heap.size → W'.heap[i]? = W.heap[i]?) : SrcL W' b1 lp n lc ls :=
  ⟨(World.cell?_of_block (hb b1 (.inl rfl) (World.block_lt_of_cell? _ _ h.c))).trans h.c, h.r.kept hs fun a ha h0 hlt => hb _ (.inr ⟨a, ha, h0, rfl⟩) hlt⟩
theorem SrcL.rd {W : World} {b1 : Nat} {lp : Option Addr} {n lc : Nat} {ls : List Rng} (h : SrcL W b1 lp n lc ls) : ∀ k, RdL b1 lp n k → k < W.heap.size := by
  rintro k (rfl | ⟨a, ha, h0, rfl⟩)
  · exact World.block_lt_of_cell? _ _ h.c
  · obtain ⟨_, _, b, o, e, hlt, _⟩ := h.r.at h0
    rw [ha] at e; cases e; exact hlt
/-- What is yielded: the list, in the iterator's own array. -/
def EL (n : Nat) (base : Nat) (x : List Int) (v : Value) (W : World) : Prop := v = .slice (some ⟨base + 1, 0, none⟩) n n ∧ BoxIs (base + 1) (intsV x) W ∧ x.length = n
/-- How the search ends. -/
def ChPost {α : Type} (J Jx : List α → World → Prop) (all now : List α) (S : World → Prop) : Ending → World → Prop := fun e W' =>
  (e = .returned (.bool true) ∧ J now W' ∧ S W') ∨ (e = .returned (.bool false) ∧ ∃ pre rest, pre ++ rest = all ∧ Jx pre W')
theorem flat_succ {α : Type} (f : Nat → List α) (i : Nat) : (List.range (i + 1)).flatMap f = (List.range i).flatMap f ++ f i := by rw [List.range_succ]; simp
theorem flat_at {α : Type} (f : Nat → List α) : ∀ (N i : Nat), i < N → ∃ t, (List.range N).flatMap f = (List.range i).flatMap f ++ f i ++ t
  | 0, i, h => by omega
  | N + 1, i, h => by
    by_cases e : i = N
    · subst e; exact ⟨[], by rw [flat_succ]; simp⟩
    · obtain ⟨t, ht⟩ := flat_at f N i (by omega)
      exact ⟨t ++ f N, by rw [flat_succ, ht]; simp⟩
theorem lists_cons (pre : List Int) (r : Rng) (rs : List Rng) : (listsL (r :: rs)).map (pre ++ ·) = (List.range r.cnt.toNat).flatMap fun (j : Nat) => (listsL rs).map fun y => pre ++ ((r.lo + j) :: y) := by
  simp only [listsL, Rng.nums, List.map_flatMap, List.flatMap_map, List.map_map]
  rfl
theorem take_set {h : List Int} {k : Nat} {pre : List Int} {z : Int} (hk : k < h.length) (ht : h.take k = pre) : (h.set k z).take (k + 1) = pre ++ [z] := by
  rw [List.take_add_one, List.take_set_of_le (Nat.le_refl _), ht]
  simp [hk]

set_option maxRecDepth 40000 in
set_option maxHeartbeats 8000000 in
theorem choose_base (l0 B b1 n lc : Nat) (lp : Option Addr) (ls : List Rng) (x : List Int) (W : World) (hS : SrcL W b1 lp n lc ls) (hI : ItL W l0 B n b1 x) (R : Ending → World → Prop)
    (hY : YieldAt Fence.wide 0 Try.prog l0 #[.slice (some ⟨B + 1, 0, none⟩) n n] W R) (hR : ∀ e W1, R e W1 → e = .returned (.bool true) ∨ e = .returned (.bool false)) :
    Calls Try.prog 131 #[.int .i64 n, .pointer (some ⟨b1, 0, none⟩), .pointer (some ⟨B, 0, none⟩), .pointer (some ⟨B + 2, 0, none⟩), .pointer (some ⟨B + 3, 0, none⟩)] W R := by
  refine (callsIn_wide (n := 5)).1 ?_
  have hc := hS.c
  have hy1 := hI.yl
  have hy2 := hI.ou
  obtain ⟨fn, tmps, assign, body, hy, hRd⟩ := yield_any (5 - 1) hY
  clear hS hI hY
  refine callsIn_of_wp Try.func131 rfl trivial ?_ rfl
  simp only [Try.ntmps131, List.size_toArray, List.length_cons, List.length_nil, Nat.reduceAdd, Nat.reduceSub, Array.replicate_succ, Array.replicate_zero, List.push_toArray, List.append_toArray, List.nil_append, List.cons_append]
  gi_wp2
  refine hRd.mono ?_
  intro e W' hr
  have HR := hid hr
  rcases hR e W' hr with rfl | rfl
  · clear hr
    gi_wp2
    exact HR.out
  · clear hr
    gi_wp2
    exact HR.out

set_option maxRecDepth 40000 in
set_option maxHeartbeats 8000000 in
theorem choose_any (l0 B b1 n lc : Nat) (lp : Option Addr) (ls : List Rng) (J Jx : List (List Int) → World → Prop) (C : Nat → Prop) (all : List (List Int)) (hl : n = ls.length) (hn : n ≤ 4) (hlo : LossOk ls) (hRB : ∀ k, RdL b1 lp n k → k < B)
    (hJ : ∀ s W1 W2, J s W1 → Near (fun k => B ≤ k ∧ k < B + 4) W1 W2 → J s W2) (hC : ∀ k, C k → (k < B ∨ B + 4 ≤ k) ∧ ¬ RdL b1 lp n k)
    (hY : ∀ done x rest W1 v, all = done ++ x :: rest → B + 4 ≤ W1.heap.size → EL n B x v W1 → J done W1 → YieldAt Fence.wide 0 Try.prog l0 #[v] W1 fun e W' => (e = .returned (.bool true) ∧ J (done ++ [x]) W' ∧ Near C W1 W') ∨ (e = .returned (.bool false) ∧ Jx (done ++ [x]) W')) :
    ∀ (rest : List Rng) (k : Nat) (pre h : List Int) (done tail : List (List Int)) (W : World), ls.drop k = rest → k ≤ n → pre.length = k → h.length = n → h.take k = pre → SrcL W b1 lp n lc ls → ItL W l0 B n b1 h → all = done ++ (listsL rest).map (pre ++ ·) ++ tail → J done W →
      Calls Try.prog 131 #[.int .i64 (k : Int), .pointer (some ⟨b1, 0, none⟩), .pointer (some ⟨B, 0, none⟩), .pointer (some ⟨B + 2, 0, none⟩), .pointer (some ⟨B + 3, 0, none⟩)] W (ChPost J Jx all (done ++ (listsL rest).map (pre ++ ·)) fun W' => SrcL W' b1 lp n lc ls ∧ ∃ h', ItL W' l0 B n b1 h' ∧ h'.length = n ∧ h'.take k = pre) := by
  intro rest
  induction rest with
  | nil =>
    intro k pre h done tail W hd hk hpl hhl hht hS hI hall hj
    have hkn : k = n := by
      have h9 := congrArg List.length hd
      simp at h9; omega
    subst hkn
    obtain rfl : h = pre := by rw [← hht, List.take_of_length_le (by omega)]
    refine choose_base l0 B b1 k lc lp ls h W hS hI _ ((hY done h tail W _ (by rw [hall]; simp [listsL]) (by have := hI.lt; omega) ⟨rfl, hI.ar, hhl⟩ hj).mono ?_) ?_
    · rintro e W' (⟨rfl, hj2, hn2⟩ | ⟨rfl, hx⟩)
      · refine .inl ⟨rfl, by simpa [listsL] using hj2, hS.kept hn2.size (fun i hi hlt => hn2.block i hlt (fun hc => (hC i hc).2 hi)), h, hI.kept hn2.size (fun i h1 h2 => hn2.block i (by have := hI.lt; omega) (fun hc => by have := (hC i hc).1; omega)), hhl, hht⟩
      · exact .inr ⟨rfl, done ++ [h], tail, by rw [hall]; simp [listsL], hx⟩
    · rintro e W1 (⟨rfl, _⟩ | ⟨rfl, _⟩)
      · exact .inl rfl
      · exact .inr rfl
  | cons r rs ih =>
    intro k pre h done tail W hd hk hpl hhl hht hS hI hall hj
    have hlen := congrArg List.length hd
    simp only [List.length_drop, List.length_cons] at hlen
    have hkn : k < n := by omega
    have hdr : ls.drop (k + 1) = rs := by rw [← List.drop_drop, hd]; rfl
    have hr0 : ls[k]? = some r := by
      have h9 := List.getElem?_drop (xs := ls) (i := k) (j := 0)
      rw [hd] at h9
      simpa using h9.symm
    have hrl := hlo r (List.mem_of_getElem? hr0)
    have hc1 : 1 ≤ r.cnt ∧ r.cnt ≤ 1001 := by unfold Rng.cnt; omega
    obtain ⟨sN, hsN⟩ : ∃ sN : Nat, r.cnt = sN := ⟨r.cnt.toNat, by omega⟩
    obtain ⟨f, hf⟩ : ∃ f : Nat → List (List Int), f = fun (j : Nat) => (listsL rs).map fun y => pre ++ ((r.lo + j) :: y) := ⟨_, rfl⟩
    have HGEN : Hid ((listsL (r :: rs)).map (pre ++ ·) = (List.range sN).flatMap f) := by
      show _ = _
      rw [lists_cons, hf, hsN, Int.toNat_natCast]
    have HF : Hid (∀ j : Nat, f j = (listsL rs).map ((pre ++ [r.lo + j]) ++ ·)) := hid (fun j => by rw [hf]; simp)
    have hs1 : sN ≤ 1001 := by omega
    have HSN := hid hsN
    have HALL := hid hall; have HIH := hid ih; have HJ := hid hJ; have HDR := hid hdr; have HPL := hid hpl; have HS := hid hS; have HI := hid hI; have HHL := hid hhl; have HHT := hid hht; have HR0 := hid hr0; have HRB := hid hRB; have HJ1 := hid hj
    have hknb : ((k : Int) == (n : Int)) = false := by simp; omega
    have HRS := hid (fun W => rsize_any r W (by omega) (by omega) (by omega) (by omega))
    rw [hsN] at HRS
    clear hf ih hJ hRB hall hdr hd hlen hpl hS hI hY hl hhl hht hr0 hj hsN hlo
    have c1 := HS.out.c
    obtain ⟨r9, hr9, b2, o2, rfl, hb2, hd0, hd1⟩ := HS.out.r.rng hkn
    rw [HR0.out] at hr9
    cases hr9
    go_enter Try.func131, Try.ntmps131
    go_wp2_with fail
    (with_reducible refine (HRS.out _).mono ?_)
    rintro e w1 ⟨rfl, hb⟩
    clear c1 hd0 hd1
    have HS1 := hid (HS.out.kept hb.size (fun i _ hlt => hb.block i hlt)); have HI1 := hid (HI.out.kept (W' := w1) hb.size (fun i h1 h2 => hb.block i (by have := HI.out.lt; omega)))
    have HJ2 : Hid (J done w1) := hid (HJ.out _ _ _ HJ1.out (near_below hb))
    clear hb hb2
    go_wp2_with fail
    go_loopw [20] (fun i wr => ∃ (j : Nat) (h : List Int), j ≤ sN ∧ i = .int .i64 j ∧ J (done ++ (List.range j).flatMap f) wr ∧ SrcL wr b1 (some ⟨b2, o2, none⟩) n lc ls ∧ ItL wr l0 B n b1 h ∧ h.length = n ∧ h.take k = pre) (fun i _ => sN - (intOf i).toNat)
    case atStart => exact ⟨0, h, by omega, rfl, by simpa using HJ2.out, HS1.out, HI1.out, HHL.out, HHT.out⟩
    case round =>
      clear HJ2 HS1 HI1 HHL HHT HS HI HJ1
      obtain ⟨j, h2, hj, rfl, hjj, hS, hI, hhl, hht⟩ := hrel
      have HS := hid hS; have HI := hid hI; have HHL := hid hhl; have HHT := hid hht; have HJJ := hid hjj
      clear hS hI hhl hht hjj
      by_cases hlt : j < sN
      · have hkh : k < h2.length := by have := HHL.out; omega
        have hw9 : IntKind.i64.wrap (r.lo + (j : Int)) = r.lo + (j : Int) := IntWalk.i64_in _ (by omega)
        go_upto_region 6 with fail
        refine wp_region_listed (S := fun l V => True ∧ (l.getD 10 true = false → V = wr.drew)) (by kernel_rfl) (⟨trivial, fun _ => rfl⟩) (fun hS => ?_)
        simp only [List.size_toArray, List.length_cons, List.length_nil, Nat.reduceAdd, Array.replicate_succ, Array.replicate_zero, List.push_toArray, List.nil_append, List.cons_append]
        refine anyL_take [10] (i := 0) (v := ?_) rfl (by kernel_rfl) (by kernel_rfl) (by kernel_rfl) (fun _ _ _ h => h) (by kernel_rfl) (by kernel_rfl) (fun _ _ => and_congr Iff.rfl (imp_congr (getD_set_iff (by decide)) Iff.rfl)) (Or.inl ⟨by rfl, fun V hV => ?_⟩) (by assumption) ?_
        rotate_left
        · obtain ⟨l, hn, hV⟩ := hV; obtain rfl := hV.2 (hn 10 (by simp)); have c0 := HI.out.ou; go_simp
          try with_reducible rfl
        try simp only [Act.put, List.getElem_toArray, List.getElem_cons_zero, List.setIfInBounds_toArray, List.set_cons_zero, List.set_cons_succ]
        refine anyL_take [] (i := 1) (v := ?_) rfl (by kernel_rfl) (by kernel_rfl) (by kernel_rfl) (fun _ _ _ h => h) (by kernel_rfl) (by kernel_rfl) (fun _ _ => and_congr Iff.rfl (imp_congr (getD_set_iff (by decide)) Iff.rfl)) (Or.inl ⟨by rfl, fun V hV => ?_⟩) (by assumption) ?_
        rotate_left
        · go_simp
          try with_reducible rfl
        try simp only [Act.put, List.getElem_toArray, List.getElem_cons_zero, List.getElem_cons_succ, List.setIfInBounds_toArray, List.set_cons_zero, List.set_cons_succ]
        refine anyL_take [10] (i := 2) (v := ?_) rfl (by kernel_rfl) (by kernel_rfl) (by kernel_rfl) (fun _ _ _ h => h) (by kernel_rfl) (by kernel_rfl) (fun _ _ => and_congr Iff.rfl (imp_congr (getD_set_iff (by decide)) Iff.rfl)) (Or.inl ⟨by rfl, fun V hV => ?_⟩) (by assumption) ?_
        rotate_left
        · obtain ⟨l, hn, hV⟩ := hV; obtain rfl := hV.2 (hn 10 (by simp)); have c0 := HS.out.c; go_simp
          try with_reducible rfl
        try simp only [Act.put, List.getElem_toArray, List.getElem_cons_zero, List.getElem_cons_succ, List.setIfInBounds_toArray, List.set_cons_zero, List.set_cons_succ]
        refine anyL_take [] (i := 3) (v := ?_) rfl (by kernel_rfl) (by kernel_rfl) (by kernel_rfl) (fun _ _ _ h => h) (by kernel_rfl) (by kernel_rfl) (fun _ _ => and_congr Iff.rfl (imp_congr (getD_set_iff (by decide)) Iff.rfl)) (Or.inl ⟨by rfl, fun V hV => ?_⟩) (by assumption) ?_
        rotate_left
        · go_simp
          try with_reducible rfl
        try simp only [Act.put, List.getElem_toArray, List.getElem_cons_zero, List.getElem_cons_succ, List.setIfInBounds_toArray, List.set_cons_zero, List.set_cons_succ]
        refine anyL_take [] (i := 4) (v := ?_) rfl (by kernel_rfl) (by kernel_rfl) (by kernel_rfl) (fun _ _ _ h => h) (by kernel_rfl) (by kernel_rfl) (fun _ _ => and_congr Iff.rfl (imp_congr (getD_set_iff (by decide)) Iff.rfl)) (Or.inl ⟨by rfl, fun V hV => ?_⟩) (by assumption) ?_
        rotate_left
        · go_simp
          try with_reducible rfl
        try simp only [Act.put, List.getElem_toArray, List.getElem_cons_zero, List.getElem_cons_succ, List.setIfInBounds_toArray, List.set_cons_zero, List.set_cons_succ]
        refine anyL_take [] (i := 5) (v := ?_) rfl (by kernel_rfl) (by kernel_rfl) (by kernel_rfl) (fun _ _ _ h => h) (by kernel_rfl) (by kernel_rfl) (fun _ _ => and_congr Iff.rfl (imp_congr (getD_set_iff (by decide)) Iff.rfl)) (Or.inl ⟨by rfl, fun V hV => ?_⟩) (by assumption) ?_
        rotate_left
        · go_simp
          try with_reducible rfl
        try simp only [Act.put, List.getElem_toArray, List.getElem_cons_zero, List.getElem_cons_succ, List.setIfInBounds_toArray, List.set_cons_zero, List.set_cons_succ]
        refine anyL_take [10] (i := 6) (v := ?_) rfl (by kernel_rfl) (by kernel_rfl) (by kernel_rfl) (fun _ _ _ h => h) (by kernel_rfl) (by kernel_rfl) (fun _ _ => and_congr Iff.rfl (imp_congr (getD_set_iff (by decide)) Iff.rfl)) (Or.inl ⟨by rfl, fun V hV => ?_⟩) (by assumption) ?_
        rotate_left
        · obtain ⟨l, hn, hV⟩ := hV; obtain rfl := hV.2 (hn 10 (by simp)); have ⟨c0, _⟩ := rng_again HS.out.r HR0.out; go_simp
          try with_reducible rfl
        try simp only [Act.put, List.getElem_toArray, List.getElem_cons_zero, List.getElem_cons_succ, List.setIfInBounds_toArray, List.set_cons_zero, List.set_cons_succ]
        refine anyL_take [] (i := 7) (v := ?_) rfl (by kernel_rfl) (by kernel_rfl) (by kernel_rfl) (fun _ _ _ h => h) (by kernel_rfl) (by kernel_rfl) (fun _ _ => and_congr Iff.rfl (imp_congr (getD_set_iff (by decide)) Iff.rfl)) (Or.inl ⟨by rfl, fun V hV => ?_⟩) (by assumption) ?_
        rotate_left
        · go_simp
          try with_reducible rfl
        try simp only [Act.put, List.getElem_toArray, List.getElem_cons_zero, List.getElem_cons_succ, List.setIfInBounds_toArray, List.set_cons_zero, List.set_cons_succ]
        refine anyL_take [] (i := 8) (v := ?_) rfl (by kernel_rfl) (by kernel_rfl) (by kernel_rfl) (fun _ _ _ h => h) (by kernel_rfl) (by kernel_rfl) (fun _ _ => and_congr Iff.rfl (imp_congr (getD_set_iff (by decide)) Iff.rfl)) (Or.inl ⟨by rfl, fun V hV => ?_⟩) (by assumption) ?_
        rotate_left
        · go_simp
          try with_reducible rfl
        try simp only [Act.put, List.getElem_toArray, List.getElem_cons_zero, List.getElem_cons_succ, List.setIfInBounds_toArray, List.set_cons_zero, List.set_cons_succ]
        refine anyL_take [] (i := 9) (v := ?_) rfl (by kernel_rfl) (by kernel_rfl) (by kernel_rfl) (fun _ _ _ h => h) (by kernel_rfl) (by kernel_rfl) (fun _ _ => and_congr Iff.rfl (imp_congr (getD_set_iff (by decide)) Iff.rfl)) (Or.inl ⟨by rfl, fun V hV => ?_⟩) (by assumption) ?_
        rotate_left
        · go_simp
          try with_reducible rfl
        try simp only [Act.put, List.getElem_toArray, List.getElem_cons_zero, List.getElem_cons_succ, List.setIfInBounds_toArray, List.set_cons_zero, List.set_cons_succ]
        refine anyL_one (i := 10) (o := _) (by kernel_rfl) rfl (fun K hK => ?_)
        have ⟨c1, f1⟩ := HI.out.ar.2 k (.int .i64 (h2[k]'hkh)) (by simp [intsV, hkh])
        obtain ⟨V12, hV12⟩ : ∃ V, wr.setCell ⟨B + 1, k, none⟩ (.int .i64 (r.lo + (j : Int))) = V := ⟨_, rfl⟩
        have HA12 : Hid (BoxIs (B + 1) (intsV (h2.set k (r.lo + j))) V12) := by show BoxIs _ _ _; rw [← hV12]; exact HI.out.ar.setInt _
        have hn12 : Near (fun i => i = B + 1) wr V12 := by rw [← hV12]; exact near_one (S := fun i => i = B + 1) rfl _
        have HN12 := hid hn12
        have HI12 : Hid (ItL V12 l0 B n b1 (h2.set k (r.lo + j))) := hid ⟨(hn12.cell (p := ⟨B, 0, none⟩) (World.block_lt_of_cell? _ _ HI.out.yl) (by show ¬ B = B + 1; omega)).trans HI.out.yl, HA12.out, (hn12.cell (p := ⟨B + 2, 0, none⟩) (World.block_lt_of_cell? _ _ HI.out.ou) (by show ¬ B + 2 = B + 1; omega)).trans HI.out.ou, (hn12.cell (p := ⟨B + 3, 0, none⟩) (World.block_lt_of_cell? _ _ HI.out.ch) (by show ¬ B + 3 = B + 1; omega)).trans HI.out.ch⟩
        have HS12 := hid (HS.out.kept hn12.size (fun i hi hlt => hn12.block i hlt (by have := HRB.out i hi; omega)))
        clear hn12
        go_simp
        clear c1 f1
        refine hK.out _ _ (⟨trivial, fun h => absurd h (by decide)⟩) (fun hS => ?_)
        clear hK K
        try simp only [List.setIfInBounds_toArray, List.set_cons_zero, List.set_cons_succ]
        refine anyL_done (by kernel_rfl) ?_ _
        clear hS hV12
        obtain ⟨t, ht⟩ := flat_at f sN j hlt
        have HJ12 : Hid (J (done ++ (List.range j).flatMap f) V12.drew) := hid (HJ.out _ _ _ HJJ.out ((HN12.out.mono (fun i _ e => by subst e; exact ⟨by omega, by omega⟩)).drew))
        have HCALL := hid (HIH.out (k + 1) (pre ++ [r.lo + (j : Int)]) (h2.set k (r.lo + j)) (done ++ (List.range j).flatMap f) (t ++ tail) V12.drew HDR.out (by omega) (by rw [List.length_append, HPL.out]; rfl) (by rw [List.length_set]; exact HHL.out) (take_set hkh HHT.out) (HS12.out.kept (Nat.le_refl _) (fun _ _ _ => rfl)) (HI12.out.kept (Nat.le_refl _) (fun _ _ _ => rfl)) (by rw [HALL.out, HGEN.out, ht, HF.out]; simp) HJ12.out)
        have c0 := HI12.out.ch
        clear ht
        rw [show (((k + 1 : Nat)) : Int) = (k : Int) + 1 by push_cast; rfl] at HCALL
        go_wp2_with fail
        refine HCALL.out.mono ?_
        rintro e W4 (⟨rfl, hj4, hS4, h4, hI4, hl4, ht4⟩ | ⟨rfl, qq, tt, hqt, hx4⟩)
        · have HJ4 : Hid (J (done ++ (List.range (j + 1)).flatMap f) W4) := hid (by rw [flat_succ, HF.out, ← List.append_assoc]; exact hj4)
          have HS4 := hid hS4; have HI4 := hid hI4; have HL4 := hid hl4
          have HT4 : Hid (h4.take k = pre) := hid (by have h9 := congrArg (List.take k) ht4; rw [List.take_take, show min k (k + 1) = k by omega] at h9; rw [h9, ← HPL.out]; simp)
          clear hj4 hS4 hI4 hl4 ht4 c0
          go_wp2_with fail
          go_roundw
          case rel => exact ⟨j + 1, h4, by omega, by go_num, HJ4.out, HS4.out, HI4.out, HL4.out, HT4.out⟩
          case measure => simp [intOf]; omega
        · have HX := hid hx4; have HQT := hid hqt
          clear hx4 hqt c0
          go_wp2_with fail
          go_ret
          exact .inr ⟨rfl, qq, tt, HQT.out, HX.out⟩
      · obtain rfl : sN = j := by omega
        go_wp2_with fail
        go_ret
        exact .inl ⟨rfl, by rw [HGEN.out]; exact HJJ.out, HS.out, h2, HI.out, HHL.out, HHT.out⟩
end Go.Proofs.Ytaioobhblfnlaaa
