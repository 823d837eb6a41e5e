/- Package treaty: the lists of numbers one by one, whether a number is in a list, whether a report is right. No condition but small numbers. -/
import Derived.Test.YtaioobhblfnlaaaP4
import Derived.Test.YtaioobhblfnlaaaPlT
namespace Go.Proofs.Ytaioobhblfnlaaa
open Go.RowKit

attribute [local go_sem] Oper.semAt_some
set_option maxRecDepth 20000 in
set_option maxHeartbeats 1000000 in
theorem index124_any (p : Option Addr) (n c : Nat) (l : List Int) (x : Int) (w : World) (hl : IntsAt w p n l) (hn : n ≤ 100000) :
    Calls Try.prog 124 #[.slice p n c, .int .i64 x] w fun e w' => ∃ j : Int, e = .returned (.int .i64 j) ∧ (decide (0 ≤ j) = hasB l x) ∧ Below w.heap.size w w' := by
  have HL := hid hl
  have hlen := hid hl.1
  clear hl
  go_enter Try.func124, Try.ntmps124
  go_wp2_with fail
  go_loopw [8] (fun i wr => ∃ k : Nat, k ≤ n ∧ i = .int .i64 k ∧ hasB (l.drop k) x = hasB l x ∧ Below w.heap.size w wr) (fun i _ => n - (intOf i).toNat)
  case atStart => exact ⟨0, by omega, rfl, by simp, Below.refl _ _⟩
  case round =>
    obtain ⟨k, hk, rfl, ha, hb⟩ := hrel
    have HA := hid ha; have HB := hid hb
    by_cases hlt : k < n
    · obtain ⟨b1, o1, rfl, hlt1, c0⟩ := (HL.out.below hb).at hlt
      have HD := hid (hasB_drop (x := x) (show k < l.length by have := hlen.out; omega))
      obtain ⟨y, hy⟩ : ∃ y, l[k]?.getD 0 = y := ⟨_, rfl⟩
      rw [hy] at c0 HD
      clear ha hb hy
      by_cases hxy : x = y
      · subst hxy
        go_wp2_with fail
        go_ret
        exact ⟨k, rfl, by rw [← HA.out, HD.out]; simp, HB.out⟩
      · have hxy' : (x == y) = false := by simpa using hxy
        have HYX : Hid ((y == x) = false) := by show _ = _; simpa using fun h => hxy h.symm
        go_wp2_with fail
        go_roundw
        case rel => exact ⟨k + 1, by omega, by go_num, by rw [← HA.out, HD.out, HYX.out, Bool.false_or], HB.out⟩
        case measure => simp [intOf]; omega
    · have hkN : l.drop k = [] := List.drop_eq_nil_of_le (by have := hlen.out; omega)
      rw [hkN] at ha
      have HA2 := hid ha
      clear hkN ha hb
      go_wp2_with fail
      go_ret
      exact ⟨-1, rfl, by rw [← HA2.out]; rfl, HB.out⟩

set_option maxRecDepth 20000 in
set_option maxHeartbeats 1000000 in
theorem contains_any (p : Option Addr) (n c : Nat) (l : List Int) (x : Int) (w : World) (hl : IntsAt w p n l) (hn : n ≤ 100000) :
    Calls Try.prog 100 #[.slice p n c, .int .i64 x] w fun e w' => e = .returned (.bool (hasB l x)) ∧ Below w.heap.size w w' := by
  have HI := hid (index124_any p n c l x w hl hn)
  clear hl
  go_enter Try.func100, Try.ntmps100
  go_wp2_with fail
  refine HI.out.mono ?_
  rintro e w1 ⟨j, rfl, hj, hb⟩
  have HJ := hid hj
  clear hj
  go_wp2_with fail
  go_ret
  exact ⟨ret_bool HJ.out, hb⟩

set_option maxRecDepth 20000 in
set_option maxHeartbeats 1000000 in
theorem lists_any (lp : Option Addr) (n lc : Nat) (w : World) : Calls Try.prog 120 #[.slice lp n lc] w fun e w' => e = .returned (.func (.func 130) #[] #[.pointer (some ⟨w.heap.size, 0, none⟩)]) ∧ w' = w.alloc (.cells #[.slice lp n lc] 33) := by
  go_enter Try.func120, Try.ntmps120
  go_wp2_with fail
  go_ret
  exact ⟨rfl, rfl⟩
theorem intsV_rep (n : Nat) : madeCells #[Value.int .i64 0] n = intsV (List.replicate n 0) := made_ints n
theorem ItL.made {W W4 : World} {l0 n b1 : Nat} (h : ((((W.alloc (.cells #[.func (.yield l0) #[] #[]] 131)).alloc (.cells (madeCells #[.int .i64 0] n) 3)).alloc (.cells #[.slice (some ⟨W.heap.size + 1, 0, none⟩) n n] 27)).alloc (.cells #[.func (.func 131) #[] #[.pointer (some ⟨b1, 0, none⟩), .pointer (some ⟨W.heap.size, 0, none⟩), .pointer (some ⟨W.heap.size + 2, 0, none⟩), .pointer (some ⟨W.heap.size + 3, 0, none⟩)]] 114)) = W4) : ItL W4 l0 W.heap.size n b1 (List.replicate n 0) ∧ Below W.heap.size W W4 := by
  subst h
  have q0 := BoxIs.start W #[.func (.yield l0) #[] #[]] 131
  have q1 := boxIs_made (W.alloc (.cells #[.func (.yield l0) #[] #[]] 131)) n
  have q2 := BoxIs.start ((W.alloc (.cells #[.func (.yield l0) #[] #[]] 131)).alloc (.cells (madeCells #[.int .i64 0] n) 3)) #[.slice (some ⟨W.heap.size + 1, 0, none⟩) n n] 27
  have q3 := BoxIs.start (((W.alloc (.cells #[.func (.yield l0) #[] #[]] 131)).alloc (.cells (madeCells #[.int .i64 0] n) 3)).alloc (.cells #[.slice (some ⟨W.heap.size + 1, 0, none⟩) n n] 27)) #[.func (.func 131) #[] #[.pointer (some ⟨b1, 0, none⟩), .pointer (some ⟨W.heap.size, 0, none⟩), .pointer (some ⟨W.heap.size + 2, 0, none⟩), .pointer (some ⟨W.heap.size + 3, 0, none⟩)]] 114
  simp only [World.size_alloc, Nat.add_assoc, Nat.reduceAdd] at q1 q2 q3
  have st : ∀ (V : World) (o : Obj), Below V.heap.size V (V.alloc o) := fun V o => (Below.refl _ _).alloc (Nat.le_refl _) o
  refine ⟨⟨?_, ?_, ?_, (q3.2 0 _ rfl).1⟩, ?_⟩
  · exact ((((q0.below (st _ _)).below (st _ _)).below (st _ _)).2 0 _ rfl).1
  · exact (q1.below (st _ _)).below (st _ _)
  · exact ((q2.below (st _ _)).2 0 _ rfl).1
  · exact ((((Below.refl _ _).alloc (Nat.le_refl _) _).alloc (by simp) _).alloc (by simp; omega) _).alloc (by simp; omega) _

set_option maxRecDepth 40000 in
set_option maxHeartbeats 4000000 in
theorem lists_gives (b1 n lc : Nat) (lp : Option Addr) (ls : List Rng) (hn : n ≤ 4) (hlo : LossOk ls) (w : World) (k : Nat) (hS : SrcL w b1 lp n lc ls) :
    Gives5 Fence.wide k Try.prog 130 #[.pointer (some ⟨b1, 0, none⟩)] (EL n) (listsL ls) (fun _ => False) (RdL b1 lp n) 4 w := by
  intro l0 J Jx C W hW hC hJ hJx hY h0
  refine (callsIn_wide (n := k)).2 ?_
  have hS0 : SrcL W b1 lp n lc ls := hS.kept hW.size (fun i hi hlt => hW.block i hlt)
  have hargs : (#[.func (.yield l0) #[] #[]] ++ #[.pointer (some ⟨b1, 0, none⟩)] : Array Value) = #[.func (.yield l0) #[] #[], .pointer (some ⟨b1, 0, none⟩)] := rfl
  rw [hargs]
  obtain ⟨W4, hW4⟩ : ∃ V, ((((W.alloc (.cells #[.func (.yield l0) #[] #[]] 131)).alloc (.cells (madeCells #[.int .i64 0] n) 3)).alloc (.cells #[.slice (some ⟨W.heap.size + 1, 0, none⟩) n n] 27)).alloc (.cells #[.func (.func 131) #[] #[.pointer (some ⟨b1, 0, none⟩), .pointer (some ⟨W.heap.size, 0, none⟩), .pointer (some ⟨W.heap.size + 2, 0, none⟩), .pointer (some ⟨W.heap.size + 3, 0, none⟩)]] 114)) = V := ⟨_, rfl⟩
  obtain ⟨hI, hb⟩ := ItL.made hW4
  have hS4 : SrcL W4 b1 lp n lc ls := hS0.kept hb.size (fun i hi hlt => hb.block i hlt)
  have hcall := choose_any l0 W.heap.size b1 n lc lp ls J Jx C (listsL ls) hS.r.1 hn hlo (fun i hi => hS0.rd i hi) (fun s W1 W2 h hn => hJ s W1 W2 h (hn.mono (fun i _ h => .inr h))) hC (fun done x rest W1 v h hz he hj => yield_any 0 (hY done x rest W1 v h hz he hj)) ls 0 [] (List.replicate n 0) [] [] W4 rfl (Nat.zero_le _) rfl (by simp) (by simp) hS4 hI (by simp) (hJ _ _ _ h0 (Near.of_below hb (fun i h1 h2 => by omega)))
  rw [show ((0 : Nat) : Int) = 0 from rfl] at hcall
  have HC := hid hcall
  have c0 := ((((Below.refl _ _).alloc (Nat.le_refl _) (.cells #[.func (.yield l0) #[] #[]] 131)) : Below W.heap.size W _).cell (p := ⟨b1, 0, none⟩) (World.block_lt_of_cell? _ _ hS0.c)).trans hS0.c
  have hc1 := (BoxIs.start W #[.func (.yield l0) #[] #[]] 131)
  have hq := hI.ch
  have hmk := fun W => run_make_row' (P := Try.prog) 27 3 (.int .i64 0) 8 Try.underlying27 Try.info3 rfl .i64 .i64 n (by omega) (by omega) W
  clear hcall hS hS0 hS4 hI hb hJ hJx hY h0 hW hC
  go_enter Try.func130, Try.ntmps130
  go_wp2_with fail
  (with_reducible refine HC.out.mono ?_)
  rintro e W5 (⟨rfl, hj4, _⟩ | ⟨rfl, qq, tt, hqt, hx4⟩)
  · have HJ4 := hid hj4
    clear hj4
    go_wp2_with fail
    go_end0
    exact ⟨⟨_, rfl⟩, .inl (by simpa using HJ4.out)⟩
  · have HX := hid hx4
    have HQ := hid hqt
    clear hx4 hqt
    go_wp2_with fail
    go_end0
    exact ⟨⟨_, rfl⟩, .inr ⟨qq, tt, HQ.out, HX.out⟩⟩

set_option maxRecDepth 20000 in
set_option maxHeartbeats 2000000 in
theorem rightK_any (f : Nat → Int) (kp lo hi : Int) (k : Nat) (w : World) (hk : k < 5) : Calls Try.prog 94 #[.agg #[.int .i64 (f 0), .int .i64 (f 1), .int .i64 (f 2), .int .i64 (f 3), .int .i64 (f 4), .int .i64 kp], .agg #[.int .i64 (k : Int), .int .i64 lo, .int .i64 hi]] w fun e w' => e = .returned (.bool (inB (f k) lo hi)) ∧ Below w.heap.size w w' := by
  have HC := hid (has_any ⟨lo, hi⟩ (f k))
  have hk5 : (k : Int) < 5 := by omega
  have HS : Hid (Boxed2 w #[.int .i64 (f 0), .int .i64 (f 1), .int .i64 (f 2), .int .i64 (f 3), .int .i64 (f 4), .int .i64 kp] 118 #[.int .i64 (k : Int), .int .i64 lo, .int .i64 hi] 89 ((w.alloc (.cells #[.int .i64 (f 0), .int .i64 (f 1), .int .i64 (f 2), .int .i64 (f 3), .int .i64 (f 4), .int .i64 kp] 118)).alloc (.cells #[.int .i64 (k : Int), .int .i64 lo, .int .i64 hi] 89))) := hid (Below.refl _ _)
  have hget := @resC_get f kp k hk
  unfold resC at hget
  have HG := hid hget
  clear hget
  go_enter Try.func94, Try.ntmps94
  go_upto_region 1 with fail
  refine wp_region_held_drew (S := fun V => Boxed2 w #[.int .i64 (f 0), .int .i64 (f 1), .int .i64 (f 2), .int .i64 (f 3), .int .i64 (f 4), .int .i64 kp] 118 #[.int .i64 (k : Int), .int .i64 lo, .int .i64 hi] 89 V) (by kernel_rfl) (HS.out.drew) (fun hS => ?_)
  simp only [List.size_toArray, List.length_cons, List.length_nil, Nat.reduceAdd, Array.replicate_succ, Array.replicate_zero, List.push_toArray, List.nil_append, List.cons_append]
  refine tkH (i := 0) (v := ?_) (fun V hV => ?_) ?_
  rotate_left
  · go_simp
    try with_reducible rfl
  try simp only [Act.put, List.getElem_toArray, List.getElem_cons_zero, List.setIfInBounds_toArray, List.set_cons_zero, List.set_cons_succ]
  refine tkH (i := 1) (v := ?_) (fun V hV => ?_) ?_
  rotate_left
  · have d1 := hV.cell2 1 (v := .int .i64 lo) rfl; have d2 := hV.cell2 2 (v := .int .i64 hi) rfl; go_simp
    try with_reducible rfl
  try simp only [Act.put, List.getElem_toArray, List.getElem_cons_zero, List.getElem_cons_succ, List.setIfInBounds_toArray, List.set_cons_zero, List.set_cons_succ]
  refine tkH (i := 2) (v := ?_) (fun V hV => ?_) ?_
  rotate_left
  · go_simp
    try with_reducible rfl
  try simp only [Act.put, List.getElem_toArray, List.getElem_cons_zero, List.getElem_cons_succ, List.setIfInBounds_toArray, List.set_cons_zero, List.set_cons_succ]
  refine tkH (i := 3) (v := ?_) (fun V hV => ?_) ?_
  rotate_left
  · have d0 := hV.cell2 0 (v := .int .i64 (k : Int)) rfl; go_simp
    try with_reducible rfl
  try simp only [Act.put, List.getElem_toArray, List.getElem_cons_zero, List.getElem_cons_succ, List.setIfInBounds_toArray, List.set_cons_zero, List.set_cons_succ]
  refine tkH (i := 4) (v := ?_) (fun V hV => ?_) ?_
  rotate_left
  · go_simp
    try with_reducible rfl
  try simp only [Act.put, List.getElem_toArray, List.getElem_cons_zero, List.getElem_cons_succ, List.setIfInBounds_toArray, List.set_cons_zero, List.set_cons_succ]
  refine tkH (i := 5) (v := ?_) (fun V hV => ?_) ?_
  rotate_left
  · go_simp
    try with_reducible rfl
  try simp only [Act.put, List.getElem_toArray, List.getElem_cons_zero, List.getElem_cons_succ, List.setIfInBounds_toArray, List.set_cons_zero, List.set_cons_succ]
  refine tkH (i := 6) (v := ?_) (fun V hV => ?_) ?_
  rotate_left
  · have d0 := hV.cell1 k HG.out; go_simp
    try with_reducible rfl
  try simp only [Act.put, List.getElem_toArray, List.getElem_cons_zero, List.getElem_cons_succ, List.setIfInBounds_toArray, List.set_cons_zero, List.set_cons_succ]
  refine wpAnyH_ready (rs := [7]) (by kernel_rfl) (by simp) ?_
  refine AllReadyH.cons (o := _) rfl (fun K hK => ?_) AllReadyH.nil
  go_simp
  (with_reducible refine (HC.out _).mono ?_)
  rintro e v1 ⟨rfl, hb⟩
  refine hK.out _ _ (hS.step (hb.mono hS.size)) (fun hS => ?_)
  clear hK K
  try simp only [List.setIfInBounds_toArray, List.set_cons_zero, List.set_cons_succ]
  refine tkH (i := 8) (v := ?_) (fun V hV => ?_) ?_
  rotate_left
  · go_simp
    try with_reducible rfl
  try simp only [Act.put, List.getElem_toArray, List.getElem_cons_zero, List.getElem_cons_succ, List.setIfInBounds_toArray, List.set_cons_zero, List.set_cons_succ]
  refine wpAnyH_done (by kernel_rfl) ?_ _
  go_wp2_with fail
  go_ret
  exact ⟨rfl, hS.below⟩
theorem right_any (f : Nat → Int) (kp : Int) (x : Rep) (w : World) (h0 : 0 ≤ x.tr) (h5 : x.tr < 5) : Calls Try.prog 94 #[.agg (resC f kp), .agg #[.int .i64 x.tr, .int .i64 x.paid.lo, .int .i64 x.paid.hi]] w fun e w' => e = .returned (.bool (rightB f x)) ∧ Below w.heap.size w w' := by
  have h := rightK_any f kp x.paid.lo x.paid.hi x.tr.toNat w (by omega)
  rw [Int.toNat_of_nonneg h0] at h
  exact h
end Go.Proofs.Ytaioobhblfnlaaa
