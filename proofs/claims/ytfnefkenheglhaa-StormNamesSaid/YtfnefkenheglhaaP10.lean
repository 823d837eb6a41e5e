/- Package storm: the wider range; sizes at a place. No condition. -/
import Derived.Test.YtfnefkenheglhaaP9
namespace Go.Proofs.Ytfnefkenheglhaa
open Go.RowKit

def minI (x y : Int) : Int := if y < x then y else x

set_option maxHeartbeats 1000000 in
theorem min2_any (b : Nat) (x y : Int) (w : World) (h0 : w.cell? ⟨b, 0, none⟩ = some (.int .i64 x)) (h1 : w.cell? ⟨b, 1, none⟩ = some (.int .i64 y)) :
    Calls Try.prog 112 #[.slice (some ⟨b, 0, none⟩) 2 2] w fun e w' => e = .returned (.int .i64 (minI x y)) ∧ w' = w := by
  have HM : Hid (Calls Try.prog 125 #[.slice (some ⟨b, 0, none⟩) 2 2] w fun e w' => e = .returned (.int .i64 (minI x y)) ∧ w' = w) := by
    show Calls _ _ _ _ _
    by_cases hxy : y < x
    · go_enter Try.func125, Try.ntmps125
      go_wp2
      refine wp_loop_rounds 3 ?_
      rw [rounds_succ]
      go_wp2
      rw [rounds_succ]
      go_wp2
      go_ret
      exact ⟨ret_int (by rw [minI, if_pos hxy]), rfl⟩
    · go_enter Try.func125, Try.ntmps125
      go_wp2
      refine wp_loop_rounds 3 ?_
      rw [rounds_succ]
      go_wp2
      rw [rounds_succ]
      go_wp2
      go_ret
      exact ⟨ret_int (by rw [minI, if_neg (by omega)]), rfl⟩
  clear h0 h1
  go_enter Try.func112, Try.ntmps112
  go_wp2_with (go_at_call 125; refine HM.out.mono ?_; rintro e w' ⟨rfl, rfl⟩)
  go_ret
  exact ⟨rfl, rfl⟩
/-- The range that has a number, too. -/
def widerR (r : Rng) (n : Int) : Rng := ⟨minI r.lo n, if r.hi < n then n else r.hi⟩
theorem Boxed1.store {w : World} {cs : Array Value} {T : TypeId} {W : World} (h : Boxed1 w cs T W) {p q : Addr} (hp : w.heap.size + 1 ≤ p.block) (hq : w.heap.size + 1 ≤ q.block) {x y : Value} : Boxed1 w cs T ((W.setCell p x).setCell q y) :=
  (Below.setCell h hp x).setCell hq y

set_option maxRecDepth 40000 in
set_option maxHeartbeats 4000000 in
theorem wider_lt (r : Rng) (n : Int) (w : World) (hlt : r.hi < n) :
    Calls Try.prog 76 #[.agg #[.int .i64 r.lo, .int .i64 r.hi], .int .i64 n] w fun e w' => e = .returned (.agg #[.int .i64 (minI r.lo n), .int .i64 n]) ∧ Below w.heap.size w w' := by
  obtain ⟨W0, hW0⟩ : ∃ W, (w.alloc (.cells #[.int .i64 r.lo, .int .i64 r.hi] 29)).alloc (.cells #[.int .i64 0, .int .i64 0] 29) = W := ⟨_, rfl⟩
  have HB0 : Hid (Boxed1 w #[.int .i64 r.lo, .int .i64 r.hi] 29 W0) := by show Boxed1 _ _ _ _; rw [← hW0]; exact (Boxed1.start _ _ _).alloc _
  have HX0 : Hid (BoxIs (w.heap.size + 1) #[.int .i64 0, .int .i64 0] W0) := by
    show BoxIs _ _ _
    have h := BoxIs.start (w.alloc (.cells #[.int .i64 r.lo, .int .i64 r.hi] 29)) #[.int .i64 0, .int .i64 0] 29
    rw [World.size_alloc, hW0] at h; exact h
  have HZ0 : Hid (W0.heap.size = w.heap.size + 2) := by show _ = _; rw [← hW0]; simp
  have HM := hid (fun (a : Int) b W h0 h1 => min2_any b a n W h0 h1)
  go_enter Try.func76, Try.ntmps76
  go_upto_region 1 with fail
  clear hW0
  refine wp_region_held_drew (S := fun V => Boxed1 w #[.int .i64 r.lo, .int .i64 r.hi] 29 V) (by kernel_rfl) (HB0.out.drew) (fun hS => ?_)
  simp only [List.size_toArray, List.length_cons, List.length_nil, Nat.reduceAdd, Array.replicate_succ, Array.replicate_zero, List.push_toArray, List.nil_append, List.cons_append]
  refine tkH (i := 0) (v := ?_) (fun V hV => ?_) ?_
  rotate_left
  · go_simp
    try with_reducible rfl
  try simp only [Act.put, List.getElem_toArray, List.getElem_cons_zero, List.setIfInBounds_toArray, List.set_cons_zero, List.set_cons_succ]
  refine tkH (i := 1) (v := ?_) (fun V hV => ?_) ?_
  rotate_left
  · have e0 := (RngAt.of hV.cell).c0; go_simp
    try with_reducible rfl
  try simp only [Act.put, List.getElem_toArray, List.getElem_cons_zero, List.getElem_cons_succ, List.setIfInBounds_toArray, List.set_cons_zero, List.set_cons_succ]
  refine tkH (i := 2) (v := ?_) (fun V hV => ?_) ?_
  rotate_left
  · go_simp
    try with_reducible rfl
  try simp only [Act.put, List.getElem_toArray, List.getElem_cons_zero, List.getElem_cons_succ, List.setIfInBounds_toArray, List.set_cons_zero, List.set_cons_succ]
  refine tkH (i := 5) (v := ?_) (fun V hV => ?_) ?_
  rotate_left
  · go_simp
    try with_reducible rfl
  try simp only [Act.put, List.getElem_toArray, List.getElem_cons_zero, List.getElem_cons_succ, List.setIfInBounds_toArray, List.set_cons_zero, List.set_cons_succ]
  refine tkH (i := 6) (v := ?_) (fun V hV => ?_) ?_
  rotate_left
  · have e0 := (RngAt.of hV.cell).c1; go_simp
    try with_reducible rfl
  try simp only [Act.put, List.getElem_toArray, List.getElem_cons_zero, List.getElem_cons_succ, List.setIfInBounds_toArray, List.set_cons_zero, List.set_cons_succ]
  refine tkH (i := 7) (v := ?_) (fun V hV => ?_) ?_
  rotate_left
  · go_simp
    try with_reducible rfl
  try simp only [Act.put, List.getElem_toArray, List.getElem_cons_zero, List.getElem_cons_succ, List.setIfInBounds_toArray, List.set_cons_zero, List.set_cons_succ]
  refine tkH (i := 8) (v := ?_) (fun V hV => ?_) ?_
  rotate_left
  · go_simp
    try with_reducible rfl
  try simp only [Act.put, List.getElem_toArray, List.getElem_cons_zero, List.getElem_cons_succ, List.setIfInBounds_toArray, List.set_cons_zero, List.set_cons_succ]
  refine wpAnyH_ready (rs := [3]) (by kernel_rfl) (by simp) ?_
  refine AllReadyH.cons (o := _) rfl (fun K hK => ?_) AllReadyH.nil
  obtain ⟨V1, hV1⟩ : ∃ V, W0.drew.alloc (.cells #[.int .i64 r.lo, .int .i64 n] 3) = V := ⟨_, rfl⟩
  have HB1 : Hid (Below W0.heap.size W0 V1) := by show Below _ _ _; rw [← hV1]; exact (Below.refl _ _).drew.alloc (Nat.le_refl _) _
  have HC1 : Hid (V1.cell? ⟨W0.heap.size, 0, none⟩ = some (.int .i64 r.lo) ∧ V1.cell? ⟨W0.heap.size, 1, none⟩ = some (.int .i64 n)) := by show _ ∧ _; rw [← hV1]; exact ⟨cell_box W0.drew _ 3 0 _ rfl, cell_box W0.drew _ 3 1 _ rfl⟩
  go_simp
  refine hK.out _ _ (HB0.out.step HB1.out) (fun hS => ?_)
  clear hK K
  try simp only [List.setIfInBounds_toArray, List.set_cons_zero, List.set_cons_succ]
  refine wpAnyH_ready (rs := [4]) (by kernel_rfl) (by simp) ?_
  refine AllReadyH.cons (o := _) rfl (fun K hK => ?_) AllReadyH.nil
  go_simp
  (with_reducible refine (HM.out _ _ _ HC1.out.1 HC1.out.2).mono ?_)
  rintro e W3 ⟨rfl, rfl⟩
  refine hK.out _ _ (hS) (fun hS => ?_)
  clear hK K
  try simp only [List.setIfInBounds_toArray, List.set_cons_zero, List.set_cons_succ]
  refine tkH (i := 9) (v := ?_) (fun V hV => ?_) ?_
  rotate_left
  · go_simp
    try with_reducible rfl
  try simp only [Act.put, List.getElem_toArray, List.getElem_cons_zero, List.getElem_cons_succ, List.setIfInBounds_toArray, List.set_cons_zero, List.set_cons_succ]
  refine wpAnyH_ready (rs := [10]) (by kernel_rfl) (by simp) ?_
  refine AllReadyH.cons (o := _) rfl (fun K hK => ?_) AllReadyH.nil
  have HX1 := hid (HX0.out.below HB1.out)
  have k0 := (HX1.out.2 0 (.int .i64 0) rfl).1; have k1 := (HX1.out.2 1 (.int .i64 0) rfl).1; have f0 := (HX1.out.2 0 (.int .i64 0) rfl).2; have f1 := (HX1.out.2 1 (.int .i64 0) rfl).2
  go_simp
  refine hK.out _ _ ((Boxed1.store hS (p := ⟨w.heap.size + 1, 0, none⟩) (q := ⟨w.heap.size + 1, 1, none⟩) (Nat.le_refl _) (Nat.le_refl _))) (fun hS => ?_)
  clear hK K
  try simp only [List.setIfInBounds_toArray, List.set_cons_zero, List.set_cons_succ]
  refine wpAnyH_done (by kernel_rfl) ?_ _
  have HR := (HX1.out.put (j := 0) (.int .i64 (minI r.lo n))).put (j := 1) (.int .i64 n)
  have y0 := (HR.2 0 (.int .i64 (minI r.lo n)) rfl).1; have y1 := (HR.2 1 (.int .i64 n) rfl).1
  go_wp2_with fail
  refine bodyPost_ret (v := .agg #[.int .i64 (minI r.lo n), .int .i64 n]) (by simp [results, Try.f76, go_sem, y0, y1]) rfl ?_
  exact ⟨rfl, hS.below⟩

set_option maxRecDepth 40000 in
set_option maxHeartbeats 4000000 in
theorem wider_ge (r : Rng) (n : Int) (w : World) (hlt : ¬ r.hi < n) :
    Calls Try.prog 76 #[.agg #[.int .i64 r.lo, .int .i64 r.hi], .int .i64 n] w fun e w' => e = .returned (.agg #[.int .i64 (minI r.lo n), .int .i64 r.hi]) ∧ Below w.heap.size w w' := by
  obtain ⟨W0, hW0⟩ : ∃ W, (w.alloc (.cells #[.int .i64 r.lo, .int .i64 r.hi] 29)).alloc (.cells #[.int .i64 0, .int .i64 0] 29) = W := ⟨_, rfl⟩
  have HB0 : Hid (Boxed1 w #[.int .i64 r.lo, .int .i64 r.hi] 29 W0) := by show Boxed1 _ _ _ _; rw [← hW0]; exact (Boxed1.start _ _ _).alloc _
  have HX0 : Hid (BoxIs (w.heap.size + 1) #[.int .i64 0, .int .i64 0] W0) := by
    show BoxIs _ _ _
    have h := BoxIs.start (w.alloc (.cells #[.int .i64 r.lo, .int .i64 r.hi] 29)) #[.int .i64 0, .int .i64 0] 29
    rw [World.size_alloc, hW0] at h; exact h
  have HZ0 : Hid (W0.heap.size = w.heap.size + 2) := by show _ = _; rw [← hW0]; simp
  have HM := hid (fun (a : Int) b W h0 h1 => min2_any b a n W h0 h1)
  go_enter Try.func76, Try.ntmps76
  go_upto_region 1 with fail
  clear hW0
  refine wp_region_held_drew (S := fun V => Boxed1 w #[.int .i64 r.lo, .int .i64 r.hi] 29 V) (by kernel_rfl) (HB0.out.drew) (fun hS => ?_)
  simp only [List.size_toArray, List.length_cons, List.length_nil, Nat.reduceAdd, Array.replicate_succ, Array.replicate_zero, List.push_toArray, List.nil_append, List.cons_append]
  refine tkH (i := 0) (v := ?_) (fun V hV => ?_) ?_
  rotate_left
  · go_simp
    try with_reducible rfl
  try simp only [Act.put, List.getElem_toArray, List.getElem_cons_zero, List.setIfInBounds_toArray, List.set_cons_zero, List.set_cons_succ]
  refine tkH (i := 1) (v := ?_) (fun V hV => ?_) ?_
  rotate_left
  · have e0 := (RngAt.of hV.cell).c0; go_simp
    try with_reducible rfl
  try simp only [Act.put, List.getElem_toArray, List.getElem_cons_zero, List.getElem_cons_succ, List.setIfInBounds_toArray, List.set_cons_zero, List.set_cons_succ]
  refine tkH (i := 2) (v := ?_) (fun V hV => ?_) ?_
  rotate_left
  · go_simp
    try with_reducible rfl
  try simp only [Act.put, List.getElem_toArray, List.getElem_cons_zero, List.getElem_cons_succ, List.setIfInBounds_toArray, List.set_cons_zero, List.set_cons_succ]
  refine tkH (i := 5) (v := ?_) (fun V hV => ?_) ?_
  rotate_left
  · go_simp
    try with_reducible rfl
  try simp only [Act.put, List.getElem_toArray, List.getElem_cons_zero, List.getElem_cons_succ, List.setIfInBounds_toArray, List.set_cons_zero, List.set_cons_succ]
  refine tkH (i := 6) (v := ?_) (fun V hV => ?_) ?_
  rotate_left
  · have e0 := (RngAt.of hV.cell).c1; go_simp
    try with_reducible rfl
  try simp only [Act.put, List.getElem_toArray, List.getElem_cons_zero, List.getElem_cons_succ, List.setIfInBounds_toArray, List.set_cons_zero, List.set_cons_succ]
  refine tkH (i := 7) (v := ?_) (fun V hV => ?_) ?_
  rotate_left
  · go_simp
    try with_reducible rfl
  try simp only [Act.put, List.getElem_toArray, List.getElem_cons_zero, List.getElem_cons_succ, List.setIfInBounds_toArray, List.set_cons_zero, List.set_cons_succ]
  refine tkH (i := 8) (v := ?_) (fun V hV => ?_) ?_
  rotate_left
  · go_simp
    try with_reducible rfl
  try simp only [Act.put, List.getElem_toArray, List.getElem_cons_zero, List.getElem_cons_succ, List.setIfInBounds_toArray, List.set_cons_zero, List.set_cons_succ]
  refine wpAnyH_ready (rs := [3]) (by kernel_rfl) (by simp) ?_
  refine AllReadyH.cons (o := _) rfl (fun K hK => ?_) AllReadyH.nil
  obtain ⟨V1, hV1⟩ : ∃ V, W0.drew.alloc (.cells #[.int .i64 r.lo, .int .i64 n] 3) = V := ⟨_, rfl⟩
  have HB1 : Hid (Below W0.heap.size W0 V1) := by show Below _ _ _; rw [← hV1]; exact (Below.refl _ _).drew.alloc (Nat.le_refl _) _
  have HC1 : Hid (V1.cell? ⟨W0.heap.size, 0, none⟩ = some (.int .i64 r.lo) ∧ V1.cell? ⟨W0.heap.size, 1, none⟩ = some (.int .i64 n)) := by show _ ∧ _; rw [← hV1]; exact ⟨cell_box W0.drew _ 3 0 _ rfl, cell_box W0.drew _ 3 1 _ rfl⟩
  go_simp
  refine hK.out _ _ (HB0.out.step HB1.out) (fun hS => ?_)
  clear hK K
  try simp only [List.setIfInBounds_toArray, List.set_cons_zero, List.set_cons_succ]
  refine wpAnyH_ready (rs := [4]) (by kernel_rfl) (by simp) ?_
  refine AllReadyH.cons (o := _) rfl (fun K hK => ?_) AllReadyH.nil
  go_simp
  (with_reducible refine (HM.out _ _ _ HC1.out.1 HC1.out.2).mono ?_)
  rintro e W3 ⟨rfl, rfl⟩
  refine hK.out _ _ (hS) (fun hS => ?_)
  clear hK K
  try simp only [List.setIfInBounds_toArray, List.set_cons_zero, List.set_cons_succ]
  refine tkH (i := 9) (v := ?_) (fun V hV => ?_) ?_
  rotate_left
  · go_simp
    try with_reducible rfl
  try simp only [Act.put, List.getElem_toArray, List.getElem_cons_zero, List.getElem_cons_succ, List.setIfInBounds_toArray, List.set_cons_zero, List.set_cons_succ]
  refine wpAnyH_ready (rs := [10]) (by kernel_rfl) (by simp) ?_
  refine AllReadyH.cons (o := _) rfl (fun K hK => ?_) AllReadyH.nil
  have HX1 := hid (HX0.out.below HB1.out)
  have k0 := (HX1.out.2 0 (.int .i64 0) rfl).1; have k1 := (HX1.out.2 1 (.int .i64 0) rfl).1; have f0 := (HX1.out.2 0 (.int .i64 0) rfl).2; have f1 := (HX1.out.2 1 (.int .i64 0) rfl).2
  go_simp
  refine hK.out _ _ ((Boxed1.store hS (p := ⟨w.heap.size + 1, 0, none⟩) (q := ⟨w.heap.size + 1, 1, none⟩) (Nat.le_refl _) (Nat.le_refl _))) (fun hS => ?_)
  clear hK K
  try simp only [List.setIfInBounds_toArray, List.set_cons_zero, List.set_cons_succ]
  refine wpAnyH_done (by kernel_rfl) ?_ _
  have HR := (HX1.out.put (j := 0) (.int .i64 (minI r.lo n))).put (j := 1) (.int .i64 r.hi)
  have y0 := (HR.2 0 (.int .i64 (minI r.lo n)) rfl).1; have y1 := (HR.2 1 (.int .i64 r.hi) rfl).1
  go_wp2_with fail
  refine bodyPost_ret (v := .agg #[.int .i64 (minI r.lo n), .int .i64 r.hi]) (by simp [results, Try.f76, go_sem, y0, y1]) rfl ?_
  exact ⟨rfl, hS.below⟩
theorem wider_any (r : Rng) (n : Int) (w : World) :
    Calls Try.prog 76 #[.agg #[.int .i64 r.lo, .int .i64 r.hi], .int .i64 n] w fun e w' => e = .returned (.agg #[.int .i64 (widerR r n).lo, .int .i64 (widerR r n).hi]) ∧ Below w.heap.size w w' := by
  by_cases h : r.hi < n
  · refine (wider_lt r n w h).mono fun e w' ⟨h1, h2⟩ => ⟨?_, h2⟩
    rw [h1]; simp only [widerR, if_pos h]
  · refine (wider_ge r n w h).mono fun e w' ⟨h1, h2⟩ => ⟨?_, h2⟩
    rw [h1]; simp only [widerR, if_neg h]
end Go.Proofs.Ytfnefkenheglhaa
