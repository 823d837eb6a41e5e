/- Package treaty and its reference: the minimum, wider ranges, what a treaty takes, whether treaties and reports are valid. No condition but small numbers. -/
import Derived.Test.YtaioobhblfnlaaaB1
namespace Go.Proofs.Ytaioobhblfnlaaa
open Go.RowKit

set_option maxHeartbeats 1000000 in
theorem min2_any (b : Nat) (x y : Int) (w : World) (h0 : w.cell? ⟨b, 0, none⟩ = some (.int .i64 x)) (h1 : w.cell? ⟨b, 1, none⟩ = some (.int .i64 y)) :
    Calls Try.prog 76 #[.slice (some ⟨b, 0, none⟩) 2 2] w fun e w' => e = .returned (.int .i64 (minI x y)) ∧ w' = w := by
  have HM : Hid (Calls Try.prog 115 #[.slice (some ⟨b, 0, none⟩) 2 2] w fun e w' => e = .returned (.int .i64 (minI x y)) ∧ w' = w) := by
    show Calls _ _ _ _ _
    by_cases hxy : y < x
    · go_enter Try.func115, Try.ntmps115
      go_wp2
      refine wp_loop_rounds 3 ?_
      rw [rounds_succ]
      go_wp2
      rw [rounds_succ]
      go_wp2
      go_ret
      exact ⟨ret_int (by rw [minI, if_pos hxy]), rfl⟩
    · go_enter Try.func115, Try.ntmps115
      go_wp2
      refine wp_loop_rounds 3 ?_
      rw [rounds_succ]
      go_wp2
      rw [rounds_succ]
      go_wp2
      go_ret
      exact ⟨ret_int (by rw [minI, if_neg (by omega)]), rfl⟩
  clear h0 h1
  go_enter Try.func76, Try.ntmps76
  go_wp2_with (go_at_call 115; refine HM.out.mono ?_; rintro e w' ⟨rfl, rfl⟩)
  go_ret
  exact ⟨rfl, rfl⟩
/-- The range that has a number, too. -/
def widerR (r : Rng) (n : Int) : Rng := ⟨minI r.lo n, if r.hi < n then n else r.hi⟩

theorem Boxed1.store {w : World} {cs : Array Value} {T : TypeId} {W : World} (h : Boxed1 w cs T W) {p q : Addr} (hp : w.heap.size + 1 ≤ p.block) (hq : w.heap.size + 1 ≤ q.block) {x y : Value} : Boxed1 w cs T ((W.setCell p x).setCell q y) :=
  (Below.setCell h hp x).setCell hq y
set_option maxRecDepth 40000 in
set_option maxHeartbeats 4000000 in
theorem wider_lt (r : Rng) (n : Int) (w : World) (hlt : r.hi < n) :
    Calls Try.prog 116 #[.agg #[.int .i64 r.lo, .int .i64 r.hi], .int .i64 n] w fun e w' => e = .returned (.agg #[.int .i64 (minI r.lo n), .int .i64 n]) ∧ Below w.heap.size w w' := by
  obtain ⟨W0, hW0⟩ : ∃ W, (w.alloc (.cells #[.int .i64 r.lo, .int .i64 r.hi] 51)).alloc (.cells #[.int .i64 0, .int .i64 0] 51) = W := ⟨_, rfl⟩
  have HB0 : Hid (Boxed1 w #[.int .i64 r.lo, .int .i64 r.hi] 51 W0) := by show Boxed1 _ _ _ _; rw [← hW0]; exact (Boxed1.start _ _ _).alloc _
  have HX0 : Hid (BoxIs (w.heap.size + 1) #[.int .i64 0, .int .i64 0] W0) := by
    show BoxIs _ _ _
    have h := BoxIs.start (w.alloc (.cells #[.int .i64 r.lo, .int .i64 r.hi] 51)) #[.int .i64 0, .int .i64 0] 51
    rw [World.size_alloc, hW0] at h; exact h
  have HZ0 : Hid (W0.heap.size = w.heap.size + 2) := by show _ = _; rw [← hW0]; simp
  have HM := hid (fun (a : Int) b W h0 h1 => min2_any b a n W h0 h1)
  go_enter Try.func116, Try.ntmps116
  go_upto_region 1 with fail
  clear hW0
  refine wp_region_held_drew (S := fun V => Boxed1 w #[.int .i64 r.lo, .int .i64 r.hi] 51 V) (by kernel_rfl) (HB0.out.drew) (fun hS => ?_)
  simp only [List.size_toArray, List.length_cons, List.length_nil, Nat.reduceAdd, Array.replicate_succ, Array.replicate_zero, List.push_toArray, List.nil_append, List.cons_append]
  refine tkH (i := 0) (v := ?_) (fun V hV => ?_) ?_
  rotate_left
  · go_simp
    try with_reducible rfl
  try simp only [Act.put, List.getElem_toArray, List.getElem_cons_zero, List.setIfInBounds_toArray, List.set_cons_zero, List.set_cons_succ]
  refine tkH (i := 1) (v := ?_) (fun V hV => ?_) ?_
  rotate_left
  · have e0 := (RngAt.of hV.cell).c0; go_simp
    try with_reducible rfl
  try simp only [Act.put, List.getElem_toArray, List.getElem_cons_zero, List.getElem_cons_succ, List.setIfInBounds_toArray, List.set_cons_zero, List.set_cons_succ]
  refine tkH (i := 2) (v := ?_) (fun V hV => ?_) ?_
  rotate_left
  · go_simp
    try with_reducible rfl
  try simp only [Act.put, List.getElem_toArray, List.getElem_cons_zero, List.getElem_cons_succ, List.setIfInBounds_toArray, List.set_cons_zero, List.set_cons_succ]
  refine tkH (i := 5) (v := ?_) (fun V hV => ?_) ?_
  rotate_left
  · go_simp
    try with_reducible rfl
  try simp only [Act.put, List.getElem_toArray, List.getElem_cons_zero, List.getElem_cons_succ, List.setIfInBounds_toArray, List.set_cons_zero, List.set_cons_succ]
  refine tkH (i := 6) (v := ?_) (fun V hV => ?_) ?_
  rotate_left
  · have e0 := (RngAt.of hV.cell).c1; go_simp
    try with_reducible rfl
  try simp only [Act.put, List.getElem_toArray, List.getElem_cons_zero, List.getElem_cons_succ, List.setIfInBounds_toArray, List.set_cons_zero, List.set_cons_succ]
  refine tkH (i := 7) (v := ?_) (fun V hV => ?_) ?_
  rotate_left
  · go_simp
    try with_reducible rfl
  try simp only [Act.put, List.getElem_toArray, List.getElem_cons_zero, List.getElem_cons_succ, List.setIfInBounds_toArray, List.set_cons_zero, List.set_cons_succ]
  refine tkH (i := 8) (v := ?_) (fun V hV => ?_) ?_
  rotate_left
  · go_simp
    try with_reducible rfl
  try simp only [Act.put, List.getElem_toArray, List.getElem_cons_zero, List.getElem_cons_succ, List.setIfInBounds_toArray, List.set_cons_zero, List.set_cons_succ]
  refine wpAnyH_ready (rs := [3]) (by kernel_rfl) (by simp) ?_
  refine AllReadyH.cons (o := _) rfl (fun K hK => ?_) AllReadyH.nil
  obtain ⟨V1, hV1⟩ : ∃ V, W0.drew.alloc (.cells #[.int .i64 r.lo, .int .i64 n] 3) = V := ⟨_, rfl⟩
  have HB1 : Hid (Below W0.heap.size W0 V1) := by show Below _ _ _; rw [← hV1]; exact (Below.refl _ _).drew.alloc (Nat.le_refl _) _
  have HC1 : Hid (V1.cell? ⟨W0.heap.size, 0, none⟩ = some (.int .i64 r.lo) ∧ V1.cell? ⟨W0.heap.size, 1, none⟩ = some (.int .i64 n)) := by show _ ∧ _; rw [← hV1]; exact ⟨cell_box W0.drew _ 3 0 _ rfl, cell_box W0.drew _ 3 1 _ rfl⟩
  go_simp
  refine hK.out _ _ (HB0.out.step HB1.out) (fun hS => ?_)
  clear hK K
  try simp only [List.setIfInBounds_toArray, List.set_cons_zero, List.set_cons_succ]
  refine wpAnyH_ready (rs := [4]) (by kernel_rfl) (by simp) ?_
  refine AllReadyH.cons (o := _) rfl (fun K hK => ?_) AllReadyH.nil
  go_simp
  (with_reducible refine (HM.out _ _ _ HC1.out.1 HC1.out.2).mono ?_)
  rintro e W3 ⟨rfl, rfl⟩
  refine hK.out _ _ (hS) (fun hS => ?_)
  clear hK K
  try simp only [List.setIfInBounds_toArray, List.set_cons_zero, List.set_cons_succ]
  refine tkH (i := 9) (v := ?_) (fun V hV => ?_) ?_
  rotate_left
  · go_simp
    try with_reducible rfl
  try simp only [Act.put, List.getElem_toArray, List.getElem_cons_zero, List.getElem_cons_succ, List.setIfInBounds_toArray, List.set_cons_zero, List.set_cons_succ]
  refine wpAnyH_ready (rs := [10]) (by kernel_rfl) (by simp) ?_
  refine AllReadyH.cons (o := _) rfl (fun K hK => ?_) AllReadyH.nil
  have HX1 := hid (HX0.out.below HB1.out)
  have k0 := (HX1.out.2 0 (.int .i64 0) rfl).1; have k1 := (HX1.out.2 1 (.int .i64 0) rfl).1; have f0 := (HX1.out.2 0 (.int .i64 0) rfl).2; have f1 := (HX1.out.2 1 (.int .i64 0) rfl).2
  go_simp
  refine hK.out _ _ ((Boxed1.store hS (p := ⟨w.heap.size + 1, 0, none⟩) (q := ⟨w.heap.size + 1, 1, none⟩) (Nat.le_refl _) (Nat.le_refl _))) (fun hS => ?_)
  clear hK K
  try simp only [List.setIfInBounds_toArray, List.set_cons_zero, List.set_cons_succ]
  refine wpAnyH_done (by kernel_rfl) ?_ _
  have HR := (HX1.out.put (j := 0) (.int .i64 (minI r.lo n))).put (j := 1) (.int .i64 n)
  have y0 := (HR.2 0 (.int .i64 (minI r.lo n)) rfl).1; have y1 := (HR.2 1 (.int .i64 n) rfl).1
  go_wp2_with fail
  refine bodyPost_ret (v := .agg #[.int .i64 (minI r.lo n), .int .i64 n]) (by simp [results, Try.f116, go_sem, y0, y1]) rfl ?_
  exact ⟨rfl, hS.below⟩

set_option maxRecDepth 40000 in
set_option maxHeartbeats 4000000 in
theorem wider_ge (r : Rng) (n : Int) (w : World) (hlt : ¬ r.hi < n) :
    Calls Try.prog 116 #[.agg #[.int .i64 r.lo, .int .i64 r.hi], .int .i64 n] w fun e w' => e = .returned (.agg #[.int .i64 (minI r.lo n), .int .i64 r.hi]) ∧ Below w.heap.size w w' := by
  obtain ⟨W0, hW0⟩ : ∃ W, (w.alloc (.cells #[.int .i64 r.lo, .int .i64 r.hi] 51)).alloc (.cells #[.int .i64 0, .int .i64 0] 51) = W := ⟨_, rfl⟩
  have HB0 : Hid (Boxed1 w #[.int .i64 r.lo, .int .i64 r.hi] 51 W0) := by show Boxed1 _ _ _ _; rw [← hW0]; exact (Boxed1.start _ _ _).alloc _
  have HX0 : Hid (BoxIs (w.heap.size + 1) #[.int .i64 0, .int .i64 0] W0) := by
    show BoxIs _ _ _
    have h := BoxIs.start (w.alloc (.cells #[.int .i64 r.lo, .int .i64 r.hi] 51)) #[.int .i64 0, .int .i64 0] 51
    rw [World.size_alloc, hW0] at h; exact h
  have HZ0 : Hid (W0.heap.size = w.heap.size + 2) := by show _ = _; rw [← hW0]; simp
  have HM := hid (fun (a : Int) b W h0 h1 => min2_any b a n W h0 h1)
  go_enter Try.func116, Try.ntmps116
  go_upto_region 1 with fail
  clear hW0
  refine wp_region_held_drew (S := fun V => Boxed1 w #[.int .i64 r.lo, .int .i64 r.hi] 51 V) (by kernel_rfl) (HB0.out.drew) (fun hS => ?_)
  simp only [List.size_toArray, List.length_cons, List.length_nil, Nat.reduceAdd, Array.replicate_succ, Array.replicate_zero, List.push_toArray, List.nil_append, List.cons_append]
  refine tkH (i := 0) (v := ?_) (fun V hV => ?_) ?_
  rotate_left
  · go_simp
    try with_reducible rfl
  try simp only [Act.put, List.getElem_toArray, List.getElem_cons_zero, List.setIfInBounds_toArray, List.set_cons_zero, List.set_cons_succ]
  refine tkH (i := 1) (v := ?_) (fun V hV => ?_) ?_
  rotate_left
  · have e0 := (RngAt.of hV.cell).c0; go_simp
    try with_reducible rfl
  try simp only [Act.put, List.getElem_toArray, List.getElem_cons_zero, List.getElem_cons_succ, List.setIfInBounds_toArray, List.set_cons_zero, List.set_cons_succ]
  refine tkH (i := 2) (v := ?_) (fun V hV => ?_) ?_
  rotate_left
  · go_simp
    try with_reducible rfl
  try simp only [Act.put, List.getElem_toArray, List.getElem_cons_zero, List.getElem_cons_succ, List.setIfInBounds_toArray, List.set_cons_zero, List.set_cons_succ]
  refine tkH (i := 5) (v := ?_) (fun V hV => ?_) ?_
  rotate_left
  · go_simp
    try with_reducible rfl
  try simp only [Act.put, List.getElem_toArray, List.getElem_cons_zero, List.getElem_cons_succ, List.setIfInBounds_toArray, List.set_cons_zero, List.set_cons_succ]
  refine tkH (i := 6) (v := ?_) (fun V hV => ?_) ?_
  rotate_left
  · have e0 := (RngAt.of hV.cell).c1; go_simp
    try with_reducible rfl
  try simp only [Act.put, List.getElem_toArray, List.getElem_cons_zero, List.getElem_cons_succ, List.setIfInBounds_toArray, List.set_cons_zero, List.set_cons_succ]
  refine tkH (i := 7) (v := ?_) (fun V hV => ?_) ?_
  rotate_left
  · go_simp
    try with_reducible rfl
  try simp only [Act.put, List.getElem_toArray, List.getElem_cons_zero, List.getElem_cons_succ, List.setIfInBounds_toArray, List.set_cons_zero, List.set_cons_succ]
  refine tkH (i := 8) (v := ?_) (fun V hV => ?_) ?_
  rotate_left
  · go_simp
    try with_reducible rfl
  try simp only [Act.put, List.getElem_toArray, List.getElem_cons_zero, List.getElem_cons_succ, List.setIfInBounds_toArray, List.set_cons_zero, List.set_cons_succ]
  refine wpAnyH_ready (rs := [3]) (by kernel_rfl) (by simp) ?_
  refine AllReadyH.cons (o := _) rfl (fun K hK => ?_) AllReadyH.nil
  obtain ⟨V1, hV1⟩ : ∃ V, W0.drew.alloc (.cells #[.int .i64 r.lo, .int .i64 n] 3) = V := ⟨_, rfl⟩
  have HB1 : Hid (Below W0.heap.size W0 V1) := by show Below _ _ _; rw [← hV1]; exact (Below.refl _ _).drew.alloc (Nat.le_refl _) _
  have HC1 : Hid (V1.cell? ⟨W0.heap.size, 0, none⟩ = some (.int .i64 r.lo) ∧ V1.cell? ⟨W0.heap.size, 1, none⟩ = some (.int .i64 n)) := by show _ ∧ _; rw [← hV1]; exact ⟨cell_box W0.drew _ 3 0 _ rfl, cell_box W0.drew _ 3 1 _ rfl⟩
  go_simp
  refine hK.out _ _ (HB0.out.step HB1.out) (fun hS => ?_)
  clear hK K
  try simp only [List.setIfInBounds_toArray, List.set_cons_zero, List.set_cons_succ]
  refine wpAnyH_ready (rs := [4]) (by kernel_rfl) (by simp) ?_
  refine AllReadyH.cons (o := _) rfl (fun K hK => ?_) AllReadyH.nil
  go_simp
  (with_reducible refine (HM.out _ _ _ HC1.out.1 HC1.out.2).mono ?_)
  rintro e W3 ⟨rfl, rfl⟩
  refine hK.out _ _ (hS) (fun hS => ?_)
  clear hK K
  try simp only [List.setIfInBounds_toArray, List.set_cons_zero, List.set_cons_succ]
  refine tkH (i := 9) (v := ?_) (fun V hV => ?_) ?_
  rotate_left
  · go_simp
    try with_reducible rfl
  try simp only [Act.put, List.getElem_toArray, List.getElem_cons_zero, List.getElem_cons_succ, List.setIfInBounds_toArray, List.set_cons_zero, List.set_cons_succ]
  refine wpAnyH_ready (rs := [10]) (by kernel_rfl) (by simp) ?_
  refine AllReadyH.cons (o := _) rfl (fun K hK => ?_) AllReadyH.nil
  have HX1 := hid (HX0.out.below HB1.out)
  have k0 := (HX1.out.2 0 (.int .i64 0) rfl).1; have k1 := (HX1.out.2 1 (.int .i64 0) rfl).1; have f0 := (HX1.out.2 0 (.int .i64 0) rfl).2; have f1 := (HX1.out.2 1 (.int .i64 0) rfl).2
  go_simp
  refine hK.out _ _ ((Boxed1.store hS (p := ⟨w.heap.size + 1, 0, none⟩) (q := ⟨w.heap.size + 1, 1, none⟩) (Nat.le_refl _) (Nat.le_refl _))) (fun hS => ?_)
  clear hK K
  try simp only [List.setIfInBounds_toArray, List.set_cons_zero, List.set_cons_succ]
  refine wpAnyH_done (by kernel_rfl) ?_ _
  have HR := (HX1.out.put (j := 0) (.int .i64 (minI r.lo n))).put (j := 1) (.int .i64 r.hi)
  have y0 := (HR.2 0 (.int .i64 (minI r.lo n)) rfl).1; have y1 := (HR.2 1 (.int .i64 r.hi) rfl).1
  go_wp2_with fail
  refine bodyPost_ret (v := .agg #[.int .i64 (minI r.lo n), .int .i64 r.hi]) (by simp [results, Try.f116, go_sem, y0, y1]) rfl ?_
  exact ⟨rfl, hS.below⟩

theorem wider_any (r : Rng) (n : Int) (w : World) : Calls Try.prog 116 #[.agg #[.int .i64 r.lo, .int .i64 r.hi], .int .i64 n] w fun e w' => e = .returned (.agg #[.int .i64 (widerR r n).lo, .int .i64 (widerR r n).hi]) ∧ Below w.heap.size w w' := by
  by_cases h : r.hi < n
  · have := wider_lt r n w h
    simp only [widerR, if_pos h]; exact this
  · have := wider_ge r n w h
    simp only [widerR, if_neg h]; exact this

set_option maxRecDepth 20000 in
set_option maxHeartbeats 1000000 in
theorem quota_any (t : Tre) (n : Int) (w : World) (h0 : 0 ≤ n) (h1 : n ≤ 1000000) (hp0 : 0 ≤ t.part) (hp1 : t.part ≤ 1000) :
    Calls Try.prog 134 #[.agg #[.int .i64 t.kind, .int .i64 t.part, .int .i64 t.above, .int .i64 t.most, .int .i64 t.times, .int .i64 t.price, .int .i64 t.off], .int .i64 n] w fun e w' => e = .returned (.int .i64 (n * t.part / 100)) ∧ Below w.heap.size w w' := by
  have hm0 : 0 ≤ n * t.part := Int.mul_nonneg h0 hp0
  have hm1 : n * t.part ≤ 1000000 * 1000 := Int.mul_le_mul h1 hp1 hp0 (by omega)
  go_enter Try.func134, Try.ntmps134
  go_wp2
  go_ret
  exact ⟨rfl, (Below.refl _ _).alloc (Nat.le_refl _) _⟩

set_option maxRecDepth 20000 in
set_option maxHeartbeats 1000000 in
theorem excess_any (t : Tre) (n : Int) (w : World) (h0 : 0 ≤ n) (h1 : n ≤ 1000000) (ha0 : 0 ≤ t.above) (ha1 : t.above ≤ 1000) :
    Calls Try.prog 135 #[.agg #[.int .i64 t.kind, .int .i64 t.part, .int .i64 t.above, .int .i64 t.most, .int .i64 t.times, .int .i64 t.price, .int .i64 t.off], .int .i64 n] w fun e w' => e = .returned (.int .i64 (minI t.most (maxI 0 (n - t.above)))) ∧ Below w.heap.size w w' := by
  have HM := hid (fun (x y : Int) (W : World) (b : Nat) h0 h1 => min2_any b x y W h0 h1)
  by_cases hx : 0 < n - t.above
  · have HX : Hid (maxI 0 (n - t.above) = n - t.above) := hid (by rw [maxI, if_pos hx])
    go_enter Try.func135, Try.ntmps135
    go_wp2_with (go_at_call 76; (with_reducible refine (HM.out t.most (n - t.above) _ _ ?_ ?_).mono ?_); go_simp; go_simp; rintro e w' ⟨rfl, rfl⟩)
    go_ret
    exact ⟨ret_int (by rw [HX.out]), ((Below.refl _ _).alloc (Nat.le_refl _) _).alloc (by simp) _⟩
  · have HX : Hid (maxI 0 (n - t.above) = 0) := hid (by rw [maxI, if_neg hx])
    go_enter Try.func135, Try.ntmps135
    go_wp2_with (go_at_call 76; (with_reducible refine (HM.out t.most 0 _ _ ?_ ?_).mono ?_); go_simp; go_simp; rintro e w' ⟨rfl, rfl⟩)
    go_ret
    exact ⟨ret_int (by rw [HX.out]), ((Below.refl _ _).alloc (Nat.le_refl _) _).alloc (by simp) _⟩

set_option maxRecDepth 20000 in
set_option maxHeartbeats 1000000 in
theorem kinds_any (w : World) : Calls Try.prog 133 #[] w fun e w' => e = .returned (.agg #[.func (.func 134) #[] #[], .func (.func 135) #[] #[]]) ∧ Below w.heap.size w w' := by
  go_enter Try.func133, Try.ntmps133
  go_wp2
  refine bodyPost_ret (v := .agg #[.func (.func 134) #[] #[], .func (.func 135) #[] #[]]) (by simp [results, Try.f133, go_sem]) rfl ?_
  exact ⟨rfl, (Below.refl _ _).alloc (Nat.le_refl _) _⟩
theorem minI_comm (a b : Int) : minI a b = minI b a := by unfold minI; split <;> split <;> omega

set_option maxRecDepth 40000 in
set_option maxHeartbeats 4000000 in
theorem takes_any (t : Tre) (n bf : Int) (w : World) (hv : treV t = true) (h0 : 0 ≤ n) (h1 : n ≤ 1000000) (hb0 : 0 ≤ bf) (hb1 : bf ≤ 1000000) :
    Calls Try.prog 126 #[.agg #[.int .i64 t.kind, .int .i64 t.part, .int .i64 t.above, .int .i64 t.most, .int .i64 t.times, .int .i64 t.price, .int .i64 t.off], .int .i64 n, .int .i64 bf] w fun e w' => e = .returned (.int .i64 (takesT t n bf)) ∧ Below w.heap.size w w' := by
  have HV := treV_iff.1 hv
  have HCAP := cap_bd hv
  clear hv
  obtain ⟨kd, pt, ab, mo, ti, pr, off⟩ := t
  simp only [capT] at HV HCAP ⊢
  obtain ⟨_, ht, hk⟩ := HV
  have hm0 : 0 ≤ mo * (ti + 1) := HCAP.1
  have hm1 : mo * (ti + 1) ≤ 4000 := HCAP.2
  clear HCAP
  rcases hk with ⟨rfl, hp, rfl, rfl, rfl⟩ | ⟨rfl, rfl, ha, hmo⟩
  · have H0 : Hid (Boxed1 w #[.int .i64 0, .int .i64 pt, .int .i64 0, .int .i64 0, .int .i64 0, .int .i64 pr, .int .i64 off] 87 (w.alloc (.cells #[.int .i64 0, .int .i64 pt, .int .i64 0, .int .i64 0, .int .i64 0, .int .i64 pr, .int .i64 off] 87))) := hid (Boxed1.start _ _ _)
    have HF : Hid (takesT ⟨0, pt, 0, 0, 0, pr, off⟩ n bf = n * pt / 100) := hid (by rw [takesT, if_pos rfl])
    have HQ := hid (fun W => quota_any ⟨0, pt, 0, 0, 0, pr, off⟩ n W h0 h1 (show 0 ≤ pt by omega) (show pt ≤ 1000 by omega))
    simp only at HQ
    have HM := hid (fun (x y : Int) (W : World) (b : Nat) h0 h1 => min2_any b x y W h0 h1)
    clear h0 h1
    have hix : ∀ w, (Instr.index 182 (.agg #[.func (.func 134) #[] #[], .func (.func 135) #[] #[]]) (.int .i64 0)).run Try.prog w = .ok (.agg #[.func (.func 134) #[] #[]]) w := fun _ => by kernel_rfl
    have hfd : ∀ w, (Instr.field 181 (.agg #[.func (.func 134) #[] #[]]) 0).run Try.prog w = .ok (.func (.func 134) #[] #[]) w := fun _ => by kernel_rfl
    go_enter Try.func126, Try.ntmps126
    go_upto_region 1 with fail
    refine wp_region_held_drew (S := fun V => Boxed1 w #[.int .i64 0, .int .i64 pt, .int .i64 0, .int .i64 0, .int .i64 0, .int .i64 pr, .int .i64 off] 87 V) (by kernel_rfl) (H0.out.drew) (fun hS => ?_)
    simp only [List.size_toArray, List.length_cons, List.length_nil, Nat.reduceAdd, Array.replicate_succ, Array.replicate_zero, List.push_toArray, List.nil_append, List.cons_append]
    refine tkH (i := 1) (v := ?_) (fun V hV => ?_) ?_
    rotate_left
    · go_simp
      try with_reducible rfl
    try simp only [Act.put, List.getElem_toArray, List.getElem_cons_zero, List.getElem_cons_succ, List.setIfInBounds_toArray, List.set_cons_zero, List.set_cons_succ]
    refine tkH (i := 2) (v := ?_) (fun V hV => ?_) ?_
    rotate_left
    · have e0 := hV.cell 0 (v := .int .i64 0) rfl; have e1 := hV.cell 1 (v := .int .i64 pt) rfl; have e2 := hV.cell 2 (v := .int .i64 0) rfl; have e3 := hV.cell 3 (v := .int .i64 0) rfl; have e4 := hV.cell 4 (v := .int .i64 0) rfl; have e5 := hV.cell 5 (v := .int .i64 pr) rfl; have e6 := hV.cell 6 (v := .int .i64 off) rfl; go_simp
      try with_reducible rfl
    try simp only [Act.put, List.getElem_toArray, List.getElem_cons_zero, List.getElem_cons_succ, List.setIfInBounds_toArray, List.set_cons_zero, List.set_cons_succ]
    refine tkH (i := 5) (v := ?_) (fun V hV => ?_) ?_
    rotate_left
    · have e0 := hV.cell 0 (v := .int .i64 0) rfl; have e1 := hV.cell 1 (v := .int .i64 pt) rfl; have e2 := hV.cell 2 (v := .int .i64 0) rfl; have e3 := hV.cell 3 (v := .int .i64 0) rfl; have e4 := hV.cell 4 (v := .int .i64 0) rfl; have e5 := hV.cell 5 (v := .int .i64 pr) rfl; have e6 := hV.cell 6 (v := .int .i64 off) rfl; go_simp
      try with_reducible rfl
    try simp only [Act.put, List.getElem_toArray, List.getElem_cons_zero, List.getElem_cons_succ, List.setIfInBounds_toArray, List.set_cons_zero, List.set_cons_succ]
    refine tkH (i := 6) (v := ?_) (fun V hV => ?_) ?_
    rotate_left
    · go_simp
      try with_reducible rfl
    try simp only [Act.put, List.getElem_toArray, List.getElem_cons_zero, List.getElem_cons_succ, List.setIfInBounds_toArray, List.set_cons_zero, List.set_cons_succ]
    refine wpAnyH_ready (rs := [0]) (by kernel_rfl) (by simp) ?_
    refine AllReadyH.cons (o := _) rfl (fun K hK => ?_) AllReadyH.nil
    go_simp
    (with_reducible refine (kinds_any _).mono ?_)
    rintro e v0 ⟨rfl, hb⟩
    refine hK.out _ _ (hS.step hb) (fun hS => ?_)
    clear hK K
    try simp only [List.setIfInBounds_toArray, List.set_cons_zero]
    refine tkH (i := 3) (v := ?_) (fun V hV => ?_) ?_
    rotate_left
    · go_simp
      try with_reducible rfl
    try simp only [Act.put, List.getElem_toArray, List.getElem_cons_zero, List.getElem_cons_succ, List.setIfInBounds_toArray, List.set_cons_zero, List.set_cons_succ]
    refine tkH (i := 4) (v := ?_) (fun V hV => ?_) ?_
    rotate_left
    · go_simp
      try with_reducible rfl
    try simp only [Act.put, List.getElem_toArray, List.getElem_cons_zero, List.getElem_cons_succ, List.setIfInBounds_toArray, List.set_cons_zero, List.set_cons_succ]
    refine wpAnyH_ready (rs := [7]) (by kernel_rfl) (by simp) ?_
    refine AllReadyH.cons (o := _) rfl (fun K hK => ?_) AllReadyH.nil
    go_simp
    refine (HQ.out _).mono ?_
    rintro e w1 ⟨rfl, hb⟩
    refine hK.out _ _ (hS.step hb) (fun hS => ?_)
    clear hK K
    try simp only [List.setIfInBounds_toArray, List.set_cons_zero, List.set_cons_succ]
    refine tkH (i := 8) (v := ?_) (fun V hV => ?_) ?_
    rotate_left
    · go_simp
      try with_reducible rfl
    try simp only [Act.put, List.getElem_toArray, List.getElem_cons_zero, List.getElem_cons_succ, List.setIfInBounds_toArray, List.set_cons_zero, List.set_cons_succ]
    refine wpAnyH_done (by kernel_rfl) ?_ _
    have e0 := hS.cell 0 (v := .int .i64 0) rfl; have e1 := hS.cell 1 (v := .int .i64 pt) rfl; have e2 := hS.cell 2 (v := .int .i64 0) rfl; have e3 := hS.cell 3 (v := .int .i64 0) rfl; have e4 := hS.cell 4 (v := .int .i64 0) rfl; have e5 := hS.cell 5 (v := .int .i64 pr) rfl; have e6 := hS.cell 6 (v := .int .i64 off) rfl
    have H1 := hid hS
    clear hS
    go_wp2_with fail
    go_ret
    exact ⟨ret_int HF.out.symm, H1.out.below⟩
  · have H0 : Hid (Boxed1 w #[.int .i64 1, .int .i64 0, .int .i64 ab, .int .i64 mo, .int .i64 ti, .int .i64 pr, .int .i64 off] 87 (w.alloc (.cells #[.int .i64 1, .int .i64 0, .int .i64 ab, .int .i64 mo, .int .i64 ti, .int .i64 pr, .int .i64 off] 87))) := hid (Boxed1.start _ _ _)
    have HF : Hid (takesT ⟨1, 0, ab, mo, ti, pr, off⟩ n bf = minI (minI mo (maxI 0 (n - ab))) (mo * (ti + 1) - bf)) := hid (by rw [takesT, if_neg (show ¬ (1 : Int) = 0 by decide), minI_comm mo])
    have HQ := hid (fun W => excess_any ⟨1, 0, ab, mo, ti, pr, off⟩ n W h0 h1 (show 0 ≤ ab by omega) (show ab ≤ 1000 by omega))
    simp only at HQ
    obtain ⟨z, hz⟩ : ∃ z, minI mo (maxI 0 (n - ab)) = z := ⟨_, rfl⟩
    rw [hz] at HF HQ
    clear hz
    have HM := hid (fun (x y : Int) (W : World) (b : Nat) h0 h1 => min2_any b x y W h0 h1)
    clear h0 h1
    have hix : ∀ w, (Instr.index 182 (.agg #[.func (.func 134) #[] #[], .func (.func 135) #[] #[]]) (.int .i64 1)).run Try.prog w = .ok (.agg #[.func (.func 135) #[] #[]]) w := fun _ => by kernel_rfl
    have hfd : ∀ w, (Instr.field 181 (.agg #[.func (.func 135) #[] #[]]) 0).run Try.prog w = .ok (.func (.func 135) #[] #[]) w := fun _ => by kernel_rfl
    go_enter Try.func126, Try.ntmps126
    go_upto_region 1 with fail
    refine wp_region_held_drew (S := fun V => Boxed1 w #[.int .i64 1, .int .i64 0, .int .i64 ab, .int .i64 mo, .int .i64 ti, .int .i64 pr, .int .i64 off] 87 V) (by kernel_rfl) (H0.out.drew) (fun hS => ?_)
    simp only [List.size_toArray, List.length_cons, List.length_nil, Nat.reduceAdd, Array.replicate_succ, Array.replicate_zero, List.push_toArray, List.nil_append, List.cons_append]
    refine tkH (i := 1) (v := ?_) (fun V hV => ?_) ?_
    rotate_left
    · go_simp
      try with_reducible rfl
    try simp only [Act.put, List.getElem_toArray, List.getElem_cons_zero, List.getElem_cons_succ, List.setIfInBounds_toArray, List.set_cons_zero, List.set_cons_succ]
    refine tkH (i := 2) (v := ?_) (fun V hV => ?_) ?_
    rotate_left
    · have e0 := hV.cell 0 (v := .int .i64 1) rfl; have e1 := hV.cell 1 (v := .int .i64 0) rfl; have e2 := hV.cell 2 (v := .int .i64 ab) rfl; have e3 := hV.cell 3 (v := .int .i64 mo) rfl; have e4 := hV.cell 4 (v := .int .i64 ti) rfl; have e5 := hV.cell 5 (v := .int .i64 pr) rfl; have e6 := hV.cell 6 (v := .int .i64 off) rfl; go_simp
      try with_reducible rfl
    try simp only [Act.put, List.getElem_toArray, List.getElem_cons_zero, List.getElem_cons_succ, List.setIfInBounds_toArray, List.set_cons_zero, List.set_cons_succ]
    refine tkH (i := 5) (v := ?_) (fun V hV => ?_) ?_
    rotate_left
    · have e0 := hV.cell 0 (v := .int .i64 1) rfl; have e1 := hV.cell 1 (v := .int .i64 0) rfl; have e2 := hV.cell 2 (v := .int .i64 ab) rfl; have e3 := hV.cell 3 (v := .int .i64 mo) rfl; have e4 := hV.cell 4 (v := .int .i64 ti) rfl; have e5 := hV.cell 5 (v := .int .i64 pr) rfl; have e6 := hV.cell 6 (v := .int .i64 off) rfl; go_simp
      try with_reducible rfl
    try simp only [Act.put, List.getElem_toArray, List.getElem_cons_zero, List.getElem_cons_succ, List.setIfInBounds_toArray, List.set_cons_zero, List.set_cons_succ]
    refine tkH (i := 6) (v := ?_) (fun V hV => ?_) ?_
    rotate_left
    · go_simp
      try with_reducible rfl
    try simp only [Act.put, List.getElem_toArray, List.getElem_cons_zero, List.getElem_cons_succ, List.setIfInBounds_toArray, List.set_cons_zero, List.set_cons_succ]
    refine wpAnyH_ready (rs := [0]) (by kernel_rfl) (by simp) ?_
    refine AllReadyH.cons (o := _) rfl (fun K hK => ?_) AllReadyH.nil
    go_simp
    (with_reducible refine (kinds_any _).mono ?_)
    rintro e v0 ⟨rfl, hb⟩
    refine hK.out _ _ (hS.step hb) (fun hS => ?_)
    clear hK K
    try simp only [List.setIfInBounds_toArray, List.set_cons_zero]
    refine tkH (i := 3) (v := ?_) (fun V hV => ?_) ?_
    rotate_left
    · go_simp
      try with_reducible rfl
    try simp only [Act.put, List.getElem_toArray, List.getElem_cons_zero, List.getElem_cons_succ, List.setIfInBounds_toArray, List.set_cons_zero, List.set_cons_succ]
    refine tkH (i := 4) (v := ?_) (fun V hV => ?_) ?_
    rotate_left
    · go_simp
      try with_reducible rfl
    try simp only [Act.put, List.getElem_toArray, List.getElem_cons_zero, List.getElem_cons_succ, List.setIfInBounds_toArray, List.set_cons_zero, List.set_cons_succ]
    refine wpAnyH_ready (rs := [7]) (by kernel_rfl) (by simp) ?_
    refine AllReadyH.cons (o := _) rfl (fun K hK => ?_) AllReadyH.nil
    go_simp
    refine (HQ.out _).mono ?_
    rintro e w1 ⟨rfl, hb⟩
    refine hK.out _ _ (hS.step hb) (fun hS => ?_)
    clear hK K
    try simp only [List.setIfInBounds_toArray, List.set_cons_zero, List.set_cons_succ]
    refine tkH (i := 8) (v := ?_) (fun V hV => ?_) ?_
    rotate_left
    · go_simp
      try with_reducible rfl
    try simp only [Act.put, List.getElem_toArray, List.getElem_cons_zero, List.getElem_cons_succ, List.setIfInBounds_toArray, List.set_cons_zero, List.set_cons_succ]
    refine wpAnyH_done (by kernel_rfl) ?_ _
    have e0 := hS.cell 0 (v := .int .i64 1) rfl; have e1 := hS.cell 1 (v := .int .i64 0) rfl; have e2 := hS.cell 2 (v := .int .i64 ab) rfl; have e3 := hS.cell 3 (v := .int .i64 mo) rfl; have e4 := hS.cell 4 (v := .int .i64 ti) rfl; have e5 := hS.cell 5 (v := .int .i64 pr) rfl; have e6 := hS.cell 6 (v := .int .i64 off) rfl
    have H1 := hid hS
    clear hS
    go_wp2_with (go_at_call 76; (with_reducible refine (HM.out z (mo * (ti + 1) - bf) _ _ ?_ ?_).mono ?_); go_simp; go_simp; rintro e w2 ⟨rfl, rfl⟩)
    go_ret
    exact ⟨ret_int HF.out.symm, (H1.out.alloc _).below⟩

set_option maxRecDepth 20000 in
set_option maxHeartbeats 1000000 in
theorem takesR_any (t : Tre) (n bf : Int) (w : World) (hv : treV t = true) (h0 : 0 ≤ n) (h1 : n ≤ 1000000) (hb0 : 0 ≤ bf) (hb1 : bf ≤ 1000000) :
    Calls Try.prog 78 #[.agg #[.int .i64 t.kind, .int .i64 t.part, .int .i64 t.above, .int .i64 t.most, .int .i64 t.times, .int .i64 t.price, .int .i64 t.off], .int .i64 n, .int .i64 bf] w fun e w' => e = .returned (.int .i64 (takesT t n bf)) ∧ Below w.heap.size w w' := by
  have HV := treV_iff.1 hv
  have HCAP := cap_bd hv
  clear hv
  obtain ⟨kd, pt, ab, mo, ti, pr, off⟩ := t
  simp only [capT] at HV HCAP ⊢
  obtain ⟨_, ht, hk⟩ := HV
  have hm0 : 0 ≤ mo * (ti + 1) := HCAP.1
  have hm1 : mo * (ti + 1) ≤ 4000 := HCAP.2
  clear HCAP
  rcases hk with ⟨rfl, hp, rfl, rfl, rfl⟩ | ⟨rfl, rfl, ha, hmo⟩
  · have HF : Hid (takesT ⟨0, pt, 0, 0, 0, pr, off⟩ n bf = n * pt / 100) := hid (by rw [takesT, if_pos rfl])
    have hq0 : 0 ≤ n * pt := Int.mul_nonneg h0 (by omega)
    have hq1 : n * pt ≤ 1000000 * 1000 := Int.mul_le_mul h1 (by omega) (by omega) (by omega)
    go_enter Try.func78, Try.ntmps78
    go_wp2
    go_ret
    exact ⟨ret_int HF.out.symm, (Below.refl _ _).alloc (Nat.le_refl _) _⟩
  · have HF : Hid (takesT ⟨1, 0, ab, mo, ti, pr, off⟩ n bf = minI (minI (maxI 0 (n - ab)) mo) (mo * (ti + 1) - bf)) := hid (by rw [takesT, if_neg (show ¬ (1 : Int) = 0 by decide)])
    by_cases hx : 0 < n - ab
    · have HX : Hid (maxI 0 (n - ab) = n - ab) := hid (by rw [maxI, if_pos hx])
      by_cases hy : mo < n - ab
      · have HY : Hid (minI (n - ab) mo = mo) := hid (by rw [minI, if_pos hy])
        by_cases hz : mo * (ti + 1) - bf < mo
        · have HZ : Hid (minI mo (mo * (ti + 1) - bf) = mo * (ti + 1) - bf) := hid (by rw [minI, if_pos hz])
          go_enter Try.func78, Try.ntmps78
          go_wp2
          go_ret
          exact ⟨ret_int (by rw [HF.out, HX.out, HY.out, HZ.out]), (Below.refl _ _).alloc (Nat.le_refl _) _⟩
        · have HZ : Hid (minI mo (mo * (ti + 1) - bf) = mo) := hid (by rw [minI, if_neg hz])
          go_enter Try.func78, Try.ntmps78
          go_wp2
          go_ret
          exact ⟨ret_int (by rw [HF.out, HX.out, HY.out, HZ.out]), (Below.refl _ _).alloc (Nat.le_refl _) _⟩
      · have HY : Hid (minI (n - ab) mo = n - ab) := hid (by rw [minI, if_neg hy])
        by_cases hz : mo * (ti + 1) - bf < n - ab
        · have HZ : Hid (minI (n - ab) (mo * (ti + 1) - bf) = mo * (ti + 1) - bf) := hid (by rw [minI, if_pos hz])
          go_enter Try.func78, Try.ntmps78
          go_wp2
          go_ret
          exact ⟨ret_int (by rw [HF.out, HX.out, HY.out, HZ.out]), (Below.refl _ _).alloc (Nat.le_refl _) _⟩
        · have HZ : Hid (minI (n - ab) (mo * (ti + 1) - bf) = n - ab) := hid (by rw [minI, if_neg hz])
          go_enter Try.func78, Try.ntmps78
          go_wp2
          go_ret
          exact ⟨ret_int (by rw [HF.out, HX.out, HY.out, HZ.out]), (Below.refl _ _).alloc (Nat.le_refl _) _⟩
    · have HX : Hid (maxI 0 (n - ab) = 0) := hid (by rw [maxI, if_neg hx])
      have HY : Hid (minI 0 mo = 0) := hid (by rw [minI, if_neg (by omega)])
      by_cases hz : mo * (ti + 1) - bf < 0
      · have HZ : Hid (minI 0 (mo * (ti + 1) - bf) = mo * (ti + 1) - bf) := hid (by rw [minI, if_pos hz])
        go_enter Try.func78, Try.ntmps78
        go_wp2
        go_ret
        exact ⟨ret_int (by rw [HF.out, HX.out, HY.out, HZ.out]), (Below.refl _ _).alloc (Nat.le_refl _) _⟩
      · have HZ : Hid (minI 0 (mo * (ti + 1) - bf) = 0) := hid (by rw [minI, if_neg hz])
        go_enter Try.func78, Try.ntmps78
        go_wp2
        go_ret
        exact ⟨ret_int (by rw [HF.out, HX.out, HY.out, HZ.out]), (Below.refl _ _).alloc (Nat.le_refl _) _⟩
end Go.Proofs.Ytaioobhblfnlaaa
