/- question.asked of the program. -/
import Derived.Test.YtlicijnaacdceaaProS
import Derived.Test.YtlicijnaacdceaaPlnC
namespace Go.Proofs.Ytlicijnaacdceaa
open Go.RowKit

theorem bounds_share_any_st (F : List Int → Int) {b bm : Nat} {r cc : Int} {p : Option Addr} {n c : Nat} {l : List Int} {sm : Int} {q : Option Addr} {m d : Nat} {cs : List Cnt} {po : Option Addr} {no co : Nat} {outl : List Int}  {lo hi : Int} {is : Bool} (hst : rngP F (genP (okP cs outl cc sm) l 0 []) = (lo, hi, is)) (w : World)
    (hwork : WorkAt w b r cc p n c sm q m d po no co bm) (hl : IntsAt w p n l) (hcs : CntsAt w q m cs) (ho : IntsAt w po no outl) (hmap : MapIs w 145 bm 0 (fun _ => none)) (hn : n ≤ 9) (hm : m ≤ 100) (hno : no ≤ 100) (hs : ∀ x ∈ l, 0 ≤ x ∧ x ≤ 9) (hc1 : 1 ≤ cc) (hc4 : cc ≤ 4) (hs0 : 0 ≤ sm) (hs9 : sm ≤ 9)
    (hof : ∀ W, Near (fun k => k = bm) w W → ∀ x ∈ genP (okP cs outl cc sm) l 0 [], Calls Try.prog 74 #[.agg #[.int .i64 r, .int .i64 cc, .slice p n c], hitsV x] W fun e W' => e = .returned (.int .i64 (F x)) ∧ Below W.heap.size W W') :
    Calls Try.prog 82 #[.agg #[.func (.func 74) #[] #[]], .pointer (some ⟨b, 0, none⟩)] w fun e w' => e = .returned (.tuple #[.agg #[.int .i64 lo, .int .i64 hi], .bool is]) ∧ Near (fun k => k = bm) w w' := by
  have h := bounds_share_any (F := F) w hwork hl hcs ho hmap hn hm hno hs hc1 hc4 hs0 hs9 hof
  rw [hst] at h
  exact h

theorem bounds_hits_any_st (F : List Int → Int) {b bm : Nat} {r cc : Int} {p : Option Addr} {n c : Nat} {l : List Int} {sm : Int} {q : Option Addr} {m d : Nat} {cs : List Cnt} {po : Option Addr} {no co : Nat} {outl : List Int} {bp : Nat} {lo hi : Int} {is : Bool} (hst : rngP F (genP (okP cs outl cc sm) l 0 []) = (lo, hi, is)) (w : World)
    (hwork : WorkAt w b r cc p n c sm q m d po no co bm) (hl : IntsAt w p n l) (hcs : CntsAt w q m cs) (ho : IntsAt w po no outl) (hmap : MapIs w 145 bm 0 (fun _ => none)) (hn : n ≤ 9) (hm : m ≤ 100) (hno : no ≤ 100) (hs : ∀ x ∈ l, 0 ≤ x ∧ x ≤ 9) (hc1 : 1 ≤ cc) (hc4 : cc ≤ 4) (hs0 : 0 ≤ sm) (hs9 : sm ≤ 9)
    (hof : ∀ W, Near (fun k => k = bm) w W → ∀ x ∈ genP (okP cs outl cc sm) l 0 [], Calls Try.prog 84 #[.agg #[.int .i64 r, .int .i64 cc, .slice p n c], hitsV x, .pointer (some ⟨bp, 0, none⟩)] W fun e W' => e = .returned (.int .i64 (F x)) ∧ Below W.heap.size W W') :
    Calls Try.prog 82 #[.agg #[.func (.func 84) #[] #[.pointer (some ⟨bp, 0, none⟩)]], .pointer (some ⟨b, 0, none⟩)] w fun e w' => e = .returned (.tuple #[.agg #[.int .i64 lo, .int .i64 hi], .bool is]) ∧ Near (fun k => k = bm) w w' := by
  have h := bounds_hits_any (F := F) w hwork hl hcs ho hmap hn hm hno hs hc1 hc4 hs0 hs9 hof
  rw [hst] at h
  exact h

theorem load_rng {w : World} {b : Nat} {x y : Int} (h0 : w.cell? ⟨b, 0, none⟩ = some (.int .i64 x)) (h1 : w.cell? ⟨b, 1, none⟩ = some (.int .i64 y)) : (loadVar 62 ⟨b, 0, none⟩).run Try.prog w = .ok (.agg #[.int .i64 x, .int .i64 y]) w := by
  simp [go_sem, h0, h1]
theorem ret_rng {fn : Func} {p u : Tmp} (hf : fn.results = #[.cell p 62, .tmp u]) {tmps : Array Value} {w : World} {b : Nat} {x y : Int} {v : Value} {R : Ending → World → Prop} (hp : tmps.getD p undef = .pointer (some ⟨b, 0, none⟩)) (hu : tmps.getD u undef = v) (h0 : w.cell? ⟨b, 0, none⟩ = some (.int .i64 x)) (h1 : w.cell? ⟨b, 1, none⟩ = some (.int .i64 y))
    (hR : R (.returned (.tuple #[.agg #[.int .i64 x, .int .i64 y], v])) w) : bodyPost Try.prog fn R .ret { tmps := tmps, defers := [] } w := by
  refine bodyPost_ret (v := .tuple #[.agg #[.int .i64 x, .int .i64 y], v]) ?_ rfl hR
  rw [results_cell_tmp hf, hp, hu]
  have h1 : (asAddr (.pointer (some ⟨b, 0, none⟩))).run Try.prog w = .ok ⟨b, 0, none⟩ w := by simp [go_sem, asAddr]
  rw [h1]
  simp only [Result.andThen]
  rw [load_rng h0 (by assumption)]

/-- The answer to a question: the bounds, and the error. -/
def askV (st : Int × Int × Bool) : Int × Int × Int := if st.2.2 = true then (st.1, st.2.1, 0) else (0, 0, 9)

/-- The question for the share. -/
theorem shareQ_any (w : World) : Calls Try.prog 70 #[] w fun e w' => e = .returned (.agg #[.func (.func 74) #[] #[]]) ∧ Below w.heap.size w w' := by
  go_enter Try.func70, Try.ntmps70
  go_wp2_with fail
  have q := cell_box w #[.func (.func 74) #[] #[]] 106 0 _ rfl
  exact bodyPost_ret (v := .agg #[.func (.func 74) #[] #[]]) (by simp [results, Try.f70, go_sem, q]) rfl ⟨rfl, (Below.refl _ _).alloc (Nat.le_refl _) _⟩

/-- The hits of a place. -/
theorem hits1_any (r cc : Int) (p : Option Addr) (n c : Nat) (x : List Int) (bp pl : Nat) (w : World) (hp : w.cell? ⟨bp, 0, none⟩ = some (.int .i64 pl)) (hpl : pl < 9) :
    Calls Try.prog 84 #[.agg #[.int .i64 r, .int .i64 cc, .slice p n c], hitsV x, .pointer (some ⟨bp, 0, none⟩)] w fun e w' => e = .returned (.int .i64 (x[pl]?.getD 0)) ∧ Below w.heap.size w w' := by
  obtain ⟨W, hW⟩ : ∃ W, (w.alloc (.cells #[.int .i64 r, .int .i64 cc, .slice p n c] 33)).alloc (.cells #[.int .i64 (x[0]?.getD 0), .int .i64 (x[1]?.getD 0), .int .i64 (x[2]?.getD 0), .int .i64 (x[3]?.getD 0), .int .i64 (x[4]?.getD 0), .int .i64 (x[5]?.getD 0), .int .i64 (x[6]?.getD 0), .int .i64 (x[7]?.getD 0), .int .i64 (x[8]?.getD 0)] 116) = W := ⟨_, rfl⟩
  have hbW : Below w.heap.size w W := by rw [← hW]; exact ((Below.refl _ _).alloc (Nat.le_refl _) _).alloc (by simp) _
  have hc : W.cell? ⟨bp, 0, none⟩ = some (.int .i64 pl) := (hbW.cell (World.block_lt_of_cell? _ _ hp)).trans hp
  have HH : HitsAt W (w.heap.size + 1) x := by
    have := hitsAt_box (w.alloc (.cells #[.int .i64 r, .int .i64 cc, .slice p n c] 33)) x 116
    rw [hW, World.size_alloc] at this
    exact this
  have hq := HH pl hpl
  have HB := hid hbW
  clear hbW HH hp
  unfold hitsV
  go_enter Try.func84, Try.ntmps84
  go_wp2_with fail
  go_ret
  exact ⟨rfl, HB.out⟩

theorem set2 {W : World} {b : Nat} {u0 u1 : Value} (h0 : W.cell? ⟨b, 0, none⟩ = some u0) (h1 : W.cell? ⟨b, 1, none⟩ = some u1) (x y : Value) :
    ((W.setCell ⟨b, 0, none⟩ x).setCell ⟨b, 1, none⟩ y).cell? ⟨b, 0, none⟩ = some x ∧ ((W.setCell ⟨b, 0, none⟩ x).setCell ⟨b, 1, none⟩ y).cell? ⟨b, 1, none⟩ = some y := by
  refine ⟨?_, World.cell?_setCell_same' _ _ _ (by rw [World.cell?_setCell_other _ _ _ _ (by simp), h1]; rfl)⟩
  rw [World.cell?_setCell_other _ _ _ _ (by simp)]
  exact World.cell?_setCell_same' _ _ _ (by rw [h0]; rfl)

set_option maxRecDepth 40000 in
set_option maxHeartbeats 8000000 in
theorem asked_share_any (r cc : Int) (p : Option Addr) (n c : Nat) (l : List Int) (sm : Int) (q : Option Addr) (m d : Nat) (cs : List Cnt)  (w : World)
    (hl : IntsAt w p n l) (hcs : CntsAt w q m cs) (hm : m ≤ 100) (hf : faultL r cc l sm cs = 0) :
    Calls Try.prog 71 #[.agg #[.func (.func 74) #[] #[]], .agg #[.int .i64 r, .int .i64 cc, .slice p n c, .int .i64 sm, .slice q m d]] w fun e w' =>
      e = .returned (.tuple #[.agg #[.int .i64 (askV (rngP (shareL l) (genP (okP cs [] cc sm) l 0 []))).1, .int .i64 (askV (rngP (shareL l) (genP (okP cs [] cc sm) l 0 []))).2.1], .int .i64 (askV (rngP (shareL l) (genP (okP cs [] cc sm) l 0 []))).2.2]) ∧ Below w.heap.size w w' := by
  have HFF := field_facts (fault0 hf).2.1
  have HSM : Hid (0 ≤ sm ∧ sm ≤ 9) := by
    show _ ∧ _
    have := (fault0 hf).2.2.1; simpa [inB] using this
  have HN9 : Hid (n ≤ 9) := by have := HFF.2.2.2.2.2.2.1; have := hl.1; show n ≤ 9; omega
  have HSB := hid HFF.2.2.2.2.2.2.2
  have HC1 := hid HFF.2.2.1
  have HC4 := hid HFF.2.2.2.1
  have HLEN := hid hl.1
  have HOF : Hid (∀ W, Below w.heap.size w W → ∀ x ∈ genP (okP cs [] cc sm) l 0 [], Calls Try.prog 74 #[.agg #[.int .i64 r, .int .i64 cc, .slice p n c], hitsV x] W fun e W' => e = .returned (.int .i64 ((shareL l) x)) ∧ Below W.heap.size W W') := by
    intro W hW x hx
    have hxb := listed_bd (genP_listed hx) HSB.out
    exact fieldShare_any r cc p n c l x W (hl.below hW) (by rw [hxb.1]; exact hl.1) HN9.out HSB.out hxb.2
  have HL := hid hl
  have HCS := hid hcs
  obtain ⟨⟨lo, hi, is⟩, hR⟩ : ∃ st, rngP (shareL l) (genP (okP cs [] cc sm) l 0 []) = st := ⟨_, rfl⟩
  have HR := hid hR
  clear hl hcs hf HFF hR
  obtain ⟨W2, hW2⟩ : ∃ W2, ((w.alloc (.cells #[.func (.func 74) #[] #[]] 106)).alloc (.cells #[.int .i64 r, .int .i64 cc, .slice p n c, .int .i64 sm, .slice q m d] 36)).alloc (.cells #[.int .i64 0, .int .i64 0] 62) = W2 := ⟨_, rfl⟩
  have B1 : Boxed1 w #[.func (.func 74) #[] #[]] 106 W2 := by rw [← hW2]; exact ((Boxed1.start _ _ _).alloc _).alloc _
  have B2 : Boxed1 (w.alloc (.cells #[.func (.func 74) #[] #[]] 106)) #[.int .i64 r, .int .i64 cc, .slice p n c, .int .i64 sm, .slice q m d] 36 W2 := by rw [← hW2]; exact (Boxed1.start _ _ _).alloc _
  have B3 : Boxed1 ((w.alloc (.cells #[.func (.func 74) #[] #[]] 106)).alloc (.cells #[.int .i64 r, .int .i64 cc, .slice p n c, .int .i64 sm, .slice q m d] 36)) #[.int .i64 0, .int .i64 0] 62 W2 := by rw [← hW2]; exact Boxed1.start _ _ _
  have HB := hid B1.below
  have HB2 := hid B2
  have HB3 := hid B3
  have HSZ : Hid (W2.heap.size = w.heap.size + 3) := by rw [← hW2]; simp [Hid]
  have HV : Hid (∀ V, Below W2.heap.size W2 V → V.cell? ⟨w.heap.size, 0, none⟩ = some (.func (.func 74) #[] #[]) ∧ V.cell? ⟨w.heap.size + 1, 0, none⟩ = some (.int .i64 r) ∧ V.cell? ⟨w.heap.size + 1, 1, none⟩ = some (.int .i64 cc) ∧ V.cell? ⟨w.heap.size + 1, 2, none⟩ = some (.slice p n c) ∧ V.cell? ⟨w.heap.size + 1, 3, none⟩ = some (.int .i64 sm) ∧ V.cell? ⟨w.heap.size + 1, 4, none⟩ = some (.slice q m d)) := by
    intro V hV
    have kk : ∀ (p : Addr) (v : Value), W2.cell? p = some v → V.cell? p = some v := fun p v h => (hV.cell (World.block_lt_of_cell? _ _ h)).trans h
    have e := World.size_alloc w (.cells #[.func (.func 74) #[] #[]] 106)
    exact ⟨kk _ _ (B1.cell 0 rfl), kk _ _ (e ▸ B2.cell 0 rfl), kk _ _ (e ▸ B2.cell 1 rfl), kk _ _ (e ▸ B2.cell 2 rfl), kk _ _ (e ▸ B2.cell 3 rfl), kk _ _ (e ▸ B2.cell 4 rfl)⟩
  clear B1 B2 B3
  go_enter Try.func71, Try.ntmps71
  go_wp2_with fail
  refine wp_region_held_drew (S := fun V => Below W2.heap.size W2 V) (by kernel_rfl) (Below.refl _ _).drew (fun hS => ?_)
  simp only [List.size_toArray, List.length_cons, List.length_nil, Nat.reduceAdd, Array.replicate_succ, Array.replicate_zero, List.push_toArray, List.nil_append, List.cons_append]
  refine wpAnyH_take (i := 0) (v := ?_) rfl (by kernel_rfl) (by kernel_rfl) (by kernel_rfl) (fun _ _ _ h => h) (Or.inl ⟨by rfl, fun V hV => ?_⟩) (by assumption) ?_
  rotate_left
  · have ⟨v0, v1, v2, v3, v4, v5⟩ := HV.out V hV; go_simp
    try with_reducible rfl
  try simp only [Act.put, List.getElem_toArray, List.getElem_cons_zero, List.setIfInBounds_toArray, List.set_cons_zero, List.set_cons_succ]
  refine wpAnyH_take (i := 1) (v := ?_) rfl (by kernel_rfl) (by kernel_rfl) (by kernel_rfl) (fun _ _ _ h => h) (Or.inl ⟨by rfl, fun V hV => ?_⟩) (by assumption) ?_
  rotate_left
  · have ⟨v0, v1, v2, v3, v4, v5⟩ := HV.out V hV; go_simp
    try with_reducible rfl
  try simp only [Act.put, List.getElem_toArray, List.getElem_cons_zero, List.getElem_cons_succ, List.setIfInBounds_toArray, List.set_cons_zero, List.set_cons_succ]
  refine wpAnyH_ready (rs := [2, 7]) (by kernel_rfl) (by simp) ?_
  refine AllReadyH.cons (o := _) rfl (fun K hK => ?_) ?_
  · skip
    go_simp
    have hX := hS.size
    refine (work_any _ _ _ _ _ _ _ _ _ _ _ _ _).mono ?_
    rintro e V2 ⟨rfl, hwork, hmap, hz, hb⟩
    have hS2 := hS.trans (hb.mono hS.size)
    have hX2 : W2.heap.size ≤ W2.drew.heap.size + 1 := by omega
    have hA2 : V2.heap.size ≠ W2.drew.heap.size + 1 := by have := hmap.lt; omega
    clear hz
    refine hK.out _ _ (hS2) (fun hS => ?_)
    clear hK K
    try simp only [List.setIfInBounds_toArray, List.set_cons_zero, List.set_cons_succ]
    refine wpAnyH_ready (rs := [3, 7]) (by kernel_rfl) (by simp) ?_
    refine AllReadyH.cons (o := _) rfl (fun K hK => ?_) ?_
    · skip
      go_simp
      refine (bounds_share_any_st (shareL l) HR.out _ (hwork.below (Below.refl _ _)) (HL.out.below (HB.out.trans (hS.mono HB.out.size))) (HCS.out.below (HB.out.trans (hS.mono HB.out.size))) (IntsAt.nil _) (hmap.below (Below.refl _ _)) HN9.out (by omega) (by omega) HSB.out HC1.out HC4.out HSM.out.1 HSM.out.2 (fun W hW x hx => HOF.out W (HB.out.trans ((hS.trans (hW.below hS.size (fun k hk e => by omega))).mono HB.out.size)) x hx)).mono ?_
      rintro e V3 ⟨rfl, hn3⟩
      refine hK.out _ _ (hS.trans (hn3.below hS.size (fun k hk e => by omega))) (fun hS => ?_)
      clear hK K
      try simp only [List.setIfInBounds_toArray, List.set_cons_zero, List.set_cons_succ]
      refine wpAnyH_take (i := 4) (v := ?_) rfl (by kernel_rfl) (by kernel_rfl) (by kernel_rfl) (fun _ _ _ h => h) (Or.inl ⟨by rfl, fun V hV => ?_⟩) (by assumption) ?_
      rotate_left
      · go_simp
        try with_reducible rfl
      try simp only [Act.put, List.getElem_toArray, List.getElem_cons_zero, List.getElem_cons_succ, List.setIfInBounds_toArray, List.set_cons_zero, List.set_cons_succ]
      refine wpAnyH_take (i := 5) (v := ?_) rfl (by kernel_rfl) (by kernel_rfl) (by kernel_rfl) (fun _ _ _ h => h) (Or.inl ⟨by rfl, fun V hV => ?_⟩) (by assumption) ?_
      rotate_left
      · go_simp
        try with_reducible rfl
      try simp only [Act.put, List.getElem_toArray, List.getElem_cons_zero, List.getElem_cons_succ, List.setIfInBounds_toArray, List.set_cons_zero, List.set_cons_succ]
      refine wpAnyH_take (i := 6) (v := ?_) rfl (by kernel_rfl) (by kernel_rfl) (by kernel_rfl) (fun _ _ _ h => h) (Or.inl ⟨by rfl, fun V hV => ?_⟩) (by assumption) ?_
      rotate_left
      · go_simp
        try with_reducible rfl
      try simp only [Act.put, List.getElem_toArray, List.getElem_cons_zero, List.getElem_cons_succ, List.setIfInBounds_toArray, List.set_cons_zero, List.set_cons_succ]
      refine wpAnyH_ready (rs := [7]) (by kernel_rfl) (by simp) ?_
      refine AllReadyH.cons (o := _) rfl (fun K hK => ?_) AllReadyH.nil
      obtain ⟨V7, hV7⟩ : ∃ V7, V3.alloc (.cells #[.int .i64 0, .int .i64 0] 62) = V7 := ⟨_, rfl⟩
      have a0 : V7.cell? ⟨V3.heap.size, 0, none⟩ = some (.int .i64 0) := by rw [← hV7]; exact cell_box V3 _ 62 0 _ rfl
      have a1 : V7.cell? ⟨V3.heap.size, 1, none⟩ = some (.int .i64 0) := by rw [← hV7]; exact cell_box V3 _ 62 1 _ rfl
      have b0 : V7.frozen? ⟨V3.heap.size, 0, none⟩ = false := by rw [← hV7]; exact frozen_new V3 _ 62 0 rfl
      have b1 : V7.frozen? ⟨V3.heap.size, 1, none⟩ = false := by rw [← hV7]; exact frozen_new V3 _ 62 1 rfl
      have hb7 : Below V3.heap.size V3 V7 := by rw [← hV7]; exact (Below.refl _ _).alloc (Nat.le_refl _) _
      have hz7 : V7.heap.size = V3.heap.size + 1 := by rw [← hV7]; simp
      have hA : V3.heap.size < V7.heap.size := by omega
      have hA0 : W2.heap.size ≤ V3.heap.size := hS.size
      clear hz7
      go_simp
      refine hK.out _ _ (hS.trans (hb7.mono hS.size)) (fun hS => ?_)
      clear hK K
      try simp only [List.setIfInBounds_toArray, List.set_cons_zero, List.set_cons_succ]
      refine wpAnyH_ready (rs := [8]) (by kernel_rfl) (by simp) ?_
      refine AllReadyH.cons (o := _) rfl (fun K hK => ?_) AllReadyH.nil
      go_simp
      refine hK.out _ _ ((hS.setCell (p := ⟨V3.heap.size, 0, none⟩) hA0 _).setCell (p := ⟨V3.heap.size, 1, none⟩) hA0 _) (fun hS => ?_)
      clear hK K
      try simp only [List.setIfInBounds_toArray, List.set_cons_zero, List.set_cons_succ]
      refine wpAnyH_take (i := 9) (v := ?_) rfl (by kernel_rfl) (by kernel_rfl) (by kernel_rfl) (fun _ _ _ h => h) (Or.inl ⟨by rfl, fun V hV => ?_⟩) (by assumption) ?_
      rotate_left
      · go_simp
        try with_reducible rfl
      try simp only [Act.put, List.getElem_toArray, List.getElem_cons_zero, List.getElem_cons_succ, List.setIfInBounds_toArray, List.set_cons_zero, List.set_cons_succ]
      refine wpAnyH_done (by kernel_rfl) ?_ _
      have ⟨q0, q1⟩ := set2 a0 a1 (.int .i64 lo) (.int .i64 hi)
      obtain ⟨W9, hW9⟩ : ∃ W9, (V7.setCell ⟨V3.heap.size, 0, none⟩ (.int .i64 lo)).setCell ⟨V3.heap.size, 1, none⟩ (.int .i64 hi) = W9 := ⟨_, rfl⟩
      rw [hW9] at q0 q1 hS ⊢
      have hs2 : (w.alloc (.cells #[.func (.func 74) #[] #[]] 106)).heap.size + 1 = w.heap.size + 1 + 1 := by simp
      have t0 := (hS.cell (World.block_lt_of_cell? _ _ (HB3.out.cell 0 rfl))).trans (HB3.out.cell 0 rfl)
      have t1 := (hS.cell (World.block_lt_of_cell? _ _ (HB3.out.cell 1 rfl))).trans (HB3.out.cell 1 rfl)
      have f0 := (hS.frozen (World.block_lt_of_cell? _ _ (HB3.out.cell 0 rfl))).trans (HB3.out.fz 0 rfl)
      have f1 := (hS.frozen (World.block_lt_of_cell? _ _ (HB3.out.cell 1 rfl))).trans (HB3.out.fz 1 rfl)
      simp only [World.size_alloc] at t0 t1 f0 f1
      clear a0 a1 b0 b1 hW9
      have HBS : Hid (Below w.heap.size w W9) := HB.out.trans (hS.mono HB.out.size)
      have HR9 := set2 t0 t1
      cases is
      · go_wp2
        exact ret_rng rfl rfl rfl (HR9 _ _).1 (HR9 _ _).2 ⟨by rw [HR.out]; rfl, (HBS.out.setCell (p := ⟨w.heap.size + 1 + 1, 0, none⟩) (by show _ ≤ w.heap.size + 1 + 1; omega) _).setCell (p := ⟨w.heap.size + 1 + 1, 1, none⟩) (by show _ ≤ w.heap.size + 1 + 1; omega) _⟩
      · go_wp2
        exact ret_rng rfl rfl rfl (HR9 _ _).1 (HR9 _ _).2 ⟨by rw [HR.out]; rfl, (HBS.out.setCell (p := ⟨w.heap.size + 1 + 1, 0, none⟩) (by show _ ≤ w.heap.size + 1 + 1; omega) _).setCell (p := ⟨w.heap.size + 1 + 1, 1, none⟩) (by show _ ≤ w.heap.size + 1 + 1; omega) _⟩
    refine AllReadyH.cons (o := _) rfl (fun K hK => ?_) AllReadyH.nil
    obtain ⟨V7, hV7⟩ : ∃ V7, V2.alloc (.cells #[.int .i64 0, .int .i64 0] 62) = V7 := ⟨_, rfl⟩
    have a0 : V7.cell? ⟨V2.heap.size, 0, none⟩ = some (.int .i64 0) := by rw [← hV7]; exact cell_box V2 _ 62 0 _ rfl
    have a1 : V7.cell? ⟨V2.heap.size, 1, none⟩ = some (.int .i64 0) := by rw [← hV7]; exact cell_box V2 _ 62 1 _ rfl
    have b0 : V7.frozen? ⟨V2.heap.size, 0, none⟩ = false := by rw [← hV7]; exact frozen_new V2 _ 62 0 rfl
    have b1 : V7.frozen? ⟨V2.heap.size, 1, none⟩ = false := by rw [← hV7]; exact frozen_new V2 _ 62 1 rfl
    have hb7 : Below V2.heap.size V2 V7 := by rw [← hV7]; exact (Below.refl _ _).alloc (Nat.le_refl _) _
    have hz7 : V7.heap.size = V2.heap.size + 1 := by rw [← hV7]; simp
    have hA : V2.heap.size < V7.heap.size := by omega
    have hA0 : W2.heap.size ≤ V2.heap.size := hS.size
    clear hz7
    go_simp
    refine hK.out _ _ (hS.trans (hb7.mono hS.size)) (fun hS => ?_)
    clear hK K
    try simp only [List.setIfInBounds_toArray, List.set_cons_zero, List.set_cons_succ]
    refine wpAnyH_ready (rs := [3]) (by kernel_rfl) (by simp) ?_
    refine AllReadyH.cons (o := _) rfl (fun K hK => ?_) AllReadyH.nil
    go_simp
    refine (bounds_share_any_st (shareL l) HR.out _ (hwork.below hb7) (HL.out.below (HB.out.trans (hS.mono HB.out.size))) (HCS.out.below (HB.out.trans (hS.mono HB.out.size))) (IntsAt.nil _) (hmap.below hb7) HN9.out (by omega) (by omega) HSB.out HC1.out HC4.out HSM.out.1 HSM.out.2 (fun W hW x hx => HOF.out W (HB.out.trans ((hS.trans (hW.below hS.size (fun k hk e => by omega))).mono HB.out.size)) x hx)).mono ?_
    rintro e V3 ⟨rfl, hn3⟩
    replace b0 := near_frozen (p := ⟨V2.heap.size, 0, none⟩) a0 b0 hn3 hA2
    replace b1 := near_frozen (p := ⟨V2.heap.size, 1, none⟩) a1 b1 hn3 hA2
    replace a0 := near_cell (p := ⟨V2.heap.size, 0, none⟩) a0 hn3 hA2
    replace a1 := near_cell (p := ⟨V2.heap.size, 1, none⟩) a1 hn3 hA2
    refine hK.out _ _ (hS.trans (hn3.below hS.size (fun k hk e => by omega))) (fun hS => ?_)
    clear hK K
    try simp only [List.setIfInBounds_toArray, List.set_cons_zero, List.set_cons_succ]
    refine wpAnyH_take (i := 4) (v := ?_) rfl (by kernel_rfl) (by kernel_rfl) (by kernel_rfl) (fun _ _ _ h => h) (Or.inl ⟨by rfl, fun V hV => ?_⟩) (by assumption) ?_
    rotate_left
    · go_simp
      try with_reducible rfl
    try simp only [Act.put, List.getElem_toArray, List.getElem_cons_zero, List.getElem_cons_succ, List.setIfInBounds_toArray, List.set_cons_zero, List.set_cons_succ]
    refine wpAnyH_take (i := 5) (v := ?_) rfl (by kernel_rfl) (by kernel_rfl) (by kernel_rfl) (fun _ _ _ h => h) (Or.inl ⟨by rfl, fun V hV => ?_⟩) (by assumption) ?_
    rotate_left
    · go_simp
      try with_reducible rfl
    try simp only [Act.put, List.getElem_toArray, List.getElem_cons_zero, List.getElem_cons_succ, List.setIfInBounds_toArray, List.set_cons_zero, List.set_cons_succ]
    refine wpAnyH_take (i := 6) (v := ?_) rfl (by kernel_rfl) (by kernel_rfl) (by kernel_rfl) (fun _ _ _ h => h) (Or.inl ⟨by rfl, fun V hV => ?_⟩) (by assumption) ?_
    rotate_left
    · go_simp
      try with_reducible rfl
    try simp only [Act.put, List.getElem_toArray, List.getElem_cons_zero, List.getElem_cons_succ, List.setIfInBounds_toArray, List.set_cons_zero, List.set_cons_succ]
    refine wpAnyH_ready (rs := [8]) (by kernel_rfl) (by simp) ?_
    refine AllReadyH.cons (o := _) rfl (fun K hK => ?_) AllReadyH.nil
    go_simp
    refine hK.out _ _ ((hS.setCell (p := ⟨V2.heap.size, 0, none⟩) hA0 _).setCell (p := ⟨V2.heap.size, 1, none⟩) hA0 _) (fun hS => ?_)
    clear hK K
    try simp only [List.setIfInBounds_toArray, List.set_cons_zero, List.set_cons_succ]
    refine wpAnyH_take (i := 9) (v := ?_) rfl (by kernel_rfl) (by kernel_rfl) (by kernel_rfl) (fun _ _ _ h => h) (Or.inl ⟨by rfl, fun V hV => ?_⟩) (by assumption) ?_
    rotate_left
    · go_simp
      try with_reducible rfl
    try simp only [Act.put, List.getElem_toArray, List.getElem_cons_zero, List.getElem_cons_succ, List.setIfInBounds_toArray, List.set_cons_zero, List.set_cons_succ]
    refine wpAnyH_done (by kernel_rfl) ?_ _
    have ⟨q0, q1⟩ := set2 a0 a1 (.int .i64 lo) (.int .i64 hi)
    obtain ⟨W9, hW9⟩ : ∃ W9, (V3.setCell ⟨V2.heap.size, 0, none⟩ (.int .i64 lo)).setCell ⟨V2.heap.size, 1, none⟩ (.int .i64 hi) = W9 := ⟨_, rfl⟩
    rw [hW9] at q0 q1 hS ⊢
    have hs2 : (w.alloc (.cells #[.func (.func 74) #[] #[]] 106)).heap.size + 1 = w.heap.size + 1 + 1 := by simp
    have t0 := (hS.cell (World.block_lt_of_cell? _ _ (HB3.out.cell 0 rfl))).trans (HB3.out.cell 0 rfl)
    have t1 := (hS.cell (World.block_lt_of_cell? _ _ (HB3.out.cell 1 rfl))).trans (HB3.out.cell 1 rfl)
    have f0 := (hS.frozen (World.block_lt_of_cell? _ _ (HB3.out.cell 0 rfl))).trans (HB3.out.fz 0 rfl)
    have f1 := (hS.frozen (World.block_lt_of_cell? _ _ (HB3.out.cell 1 rfl))).trans (HB3.out.fz 1 rfl)
    simp only [World.size_alloc] at t0 t1 f0 f1
    clear a0 a1 b0 b1 hW9
    have HBS : Hid (Below w.heap.size w W9) := HB.out.trans (hS.mono HB.out.size)
    have HR9 := set2 t0 t1
    cases is
    · go_wp2
      exact ret_rng rfl rfl rfl (HR9 _ _).1 (HR9 _ _).2 ⟨by rw [HR.out]; rfl, (HBS.out.setCell (p := ⟨w.heap.size + 1 + 1, 0, none⟩) (by show _ ≤ w.heap.size + 1 + 1; omega) _).setCell (p := ⟨w.heap.size + 1 + 1, 1, none⟩) (by show _ ≤ w.heap.size + 1 + 1; omega) _⟩
    · go_wp2
      exact ret_rng rfl rfl rfl (HR9 _ _).1 (HR9 _ _).2 ⟨by rw [HR.out]; rfl, (HBS.out.setCell (p := ⟨w.heap.size + 1 + 1, 0, none⟩) (by show _ ≤ w.heap.size + 1 + 1; omega) _).setCell (p := ⟨w.heap.size + 1 + 1, 1, none⟩) (by show _ ≤ w.heap.size + 1 + 1; omega) _⟩
  refine AllReadyH.cons (o := _) rfl (fun K hK => ?_) AllReadyH.nil
  obtain ⟨V7, hV7⟩ : ∃ V7, (W2.alloc (.cells #[.int .i64 0, .int .i64 0] 62)).drew = V7 := ⟨_, rfl⟩
  have a0 : V7.cell? ⟨W2.heap.size, 0, none⟩ = some (.int .i64 0) := by rw [← hV7]; exact cell_box W2 _ 62 0 _ rfl
  have a1 : V7.cell? ⟨W2.heap.size, 1, none⟩ = some (.int .i64 0) := by rw [← hV7]; exact cell_box W2 _ 62 1 _ rfl
  have b0 : V7.frozen? ⟨W2.heap.size, 0, none⟩ = false := by rw [← hV7]; exact frozen_new W2 _ 62 0 rfl
  have b1 : V7.frozen? ⟨W2.heap.size, 1, none⟩ = false := by rw [← hV7]; exact frozen_new W2 _ 62 1 rfl
  have hb7 : Below W2.heap.size W2 V7 := by rw [← hV7]; exact ((Below.refl _ _).alloc (Nat.le_refl _) _).drew
  have hz7 : V7.heap.size = W2.heap.size + 1 := by rw [← hV7]; simp
  have hA : W2.heap.size < V7.heap.size := by omega
  have hA0 : W2.heap.size ≤ W2.heap.size := hS.size
  clear hz7
  go_simp
  refine hK.out _ _ (hb7) (fun hS => ?_)
  clear hK K
  try simp only [List.setIfInBounds_toArray, List.set_cons_zero, List.set_cons_succ]
  refine wpAnyH_ready (rs := [2]) (by kernel_rfl) (by simp) ?_
  refine AllReadyH.cons (o := _) rfl (fun K hK => ?_) AllReadyH.nil
  go_simp
  have hX := hS.size
  refine (work_any _ _ _ _ _ _ _ _ _ _ _ _ _).mono ?_
  rintro e V2 ⟨rfl, hwork, hmap, hz, hb⟩
  have hS2 := hS.trans (hb.mono hS.size)
  have hX2 : W2.heap.size ≤ V7.heap.size + 1 := by omega
  have hnb : Near (fun _ => False) V7 V2 := Near.of_below hb (fun k h1 h2 => by omega)
  replace b0 := near_frozen (p := ⟨W2.heap.size, 0, none⟩) a0 b0 hnb (fun h => h)
  replace b1 := near_frozen (p := ⟨W2.heap.size, 1, none⟩) a1 b1 hnb (fun h => h)
  replace a0 := near_cell (p := ⟨W2.heap.size, 0, none⟩) a0 hnb (fun h => h)
  replace a1 := near_cell (p := ⟨W2.heap.size, 1, none⟩) a1 hnb (fun h => h)
  have hAne : W2.heap.size ≠ V7.heap.size + 1 := by omega
  clear hz
  refine hK.out _ _ (hS2) (fun hS => ?_)
  clear hK K
  try simp only [List.setIfInBounds_toArray, List.set_cons_zero, List.set_cons_succ]
  refine wpAnyH_ready (rs := [3]) (by kernel_rfl) (by simp) ?_
  refine AllReadyH.cons (o := _) rfl (fun K hK => ?_) AllReadyH.nil
  go_simp
  refine (bounds_share_any_st (shareL l) HR.out _ (hwork.below (Below.refl _ _)) (HL.out.below (HB.out.trans (hS.mono HB.out.size))) (HCS.out.below (HB.out.trans (hS.mono HB.out.size))) (IntsAt.nil _) (hmap.below (Below.refl _ _)) HN9.out (by omega) (by omega) HSB.out HC1.out HC4.out HSM.out.1 HSM.out.2 (fun W hW x hx => HOF.out W (HB.out.trans ((hS.trans (hW.below hS.size (fun k hk e => by omega))).mono HB.out.size)) x hx)).mono ?_
  rintro e V3 ⟨rfl, hn3⟩
  replace b0 := near_frozen (p := ⟨W2.heap.size, 0, none⟩) a0 b0 hn3 hAne
  replace b1 := near_frozen (p := ⟨W2.heap.size, 1, none⟩) a1 b1 hn3 hAne
  replace a0 := near_cell (p := ⟨W2.heap.size, 0, none⟩) a0 hn3 hAne
  replace a1 := near_cell (p := ⟨W2.heap.size, 1, none⟩) a1 hn3 hAne
  refine hK.out _ _ (hS.trans (hn3.below hS.size (fun k hk e => by omega))) (fun hS => ?_)
  clear hK K
  try simp only [List.setIfInBounds_toArray, List.set_cons_zero, List.set_cons_succ]
  refine wpAnyH_take (i := 4) (v := ?_) rfl (by kernel_rfl) (by kernel_rfl) (by kernel_rfl) (fun _ _ _ h => h) (Or.inl ⟨by rfl, fun V hV => ?_⟩) (by assumption) ?_
  rotate_left
  · go_simp
    try with_reducible rfl
  try simp only [Act.put, List.getElem_toArray, List.getElem_cons_zero, List.getElem_cons_succ, List.setIfInBounds_toArray, List.set_cons_zero, List.set_cons_succ]
  refine wpAnyH_take (i := 5) (v := ?_) rfl (by kernel_rfl) (by kernel_rfl) (by kernel_rfl) (fun _ _ _ h => h) (Or.inl ⟨by rfl, fun V hV => ?_⟩) (by assumption) ?_
  rotate_left
  · go_simp
    try with_reducible rfl
  try simp only [Act.put, List.getElem_toArray, List.getElem_cons_zero, List.getElem_cons_succ, List.setIfInBounds_toArray, List.set_cons_zero, List.set_cons_succ]
  refine wpAnyH_take (i := 6) (v := ?_) rfl (by kernel_rfl) (by kernel_rfl) (by kernel_rfl) (fun _ _ _ h => h) (Or.inl ⟨by rfl, fun V hV => ?_⟩) (by assumption) ?_
  rotate_left
  · go_simp
    try with_reducible rfl
  try simp only [Act.put, List.getElem_toArray, List.getElem_cons_zero, List.getElem_cons_succ, List.setIfInBounds_toArray, List.set_cons_zero, List.set_cons_succ]
  refine wpAnyH_ready (rs := [8]) (by kernel_rfl) (by simp) ?_
  refine AllReadyH.cons (o := _) rfl (fun K hK => ?_) AllReadyH.nil
  go_simp
  refine hK.out _ _ ((hS.setCell (p := ⟨W2.heap.size, 0, none⟩) hA0 _).setCell (p := ⟨W2.heap.size, 1, none⟩) hA0 _) (fun hS => ?_)
  clear hK K
  try simp only [List.setIfInBounds_toArray, List.set_cons_zero, List.set_cons_succ]
  refine wpAnyH_take (i := 9) (v := ?_) rfl (by kernel_rfl) (by kernel_rfl) (by kernel_rfl) (fun _ _ _ h => h) (Or.inl ⟨by rfl, fun V hV => ?_⟩) (by assumption) ?_
  rotate_left
  · go_simp
    try with_reducible rfl
  try simp only [Act.put, List.getElem_toArray, List.getElem_cons_zero, List.getElem_cons_succ, List.setIfInBounds_toArray, List.set_cons_zero, List.set_cons_succ]
  refine wpAnyH_done (by kernel_rfl) ?_ _
  have ⟨q0, q1⟩ := set2 a0 a1 (.int .i64 lo) (.int .i64 hi)
  obtain ⟨W9, hW9⟩ : ∃ W9, (V3.setCell ⟨W2.heap.size, 0, none⟩ (.int .i64 lo)).setCell ⟨W2.heap.size, 1, none⟩ (.int .i64 hi) = W9 := ⟨_, rfl⟩
  rw [hW9] at q0 q1 hS ⊢
  have hs2 : (w.alloc (.cells #[.func (.func 74) #[] #[]] 106)).heap.size + 1 = w.heap.size + 1 + 1 := by simp
  have t0 := (hS.cell (World.block_lt_of_cell? _ _ (HB3.out.cell 0 rfl))).trans (HB3.out.cell 0 rfl)
  have t1 := (hS.cell (World.block_lt_of_cell? _ _ (HB3.out.cell 1 rfl))).trans (HB3.out.cell 1 rfl)
  have f0 := (hS.frozen (World.block_lt_of_cell? _ _ (HB3.out.cell 0 rfl))).trans (HB3.out.fz 0 rfl)
  have f1 := (hS.frozen (World.block_lt_of_cell? _ _ (HB3.out.cell 1 rfl))).trans (HB3.out.fz 1 rfl)
  simp only [World.size_alloc] at t0 t1 f0 f1
  clear a0 a1 b0 b1 hW9
  have HBS : Hid (Below w.heap.size w W9) := HB.out.trans (hS.mono HB.out.size)
  have HR9 := set2 t0 t1
  cases is
  · go_wp2
    exact ret_rng rfl rfl rfl (HR9 _ _).1 (HR9 _ _).2 ⟨by rw [HR.out]; rfl, (HBS.out.setCell (p := ⟨w.heap.size + 1 + 1, 0, none⟩) (by show _ ≤ w.heap.size + 1 + 1; omega) _).setCell (p := ⟨w.heap.size + 1 + 1, 1, none⟩) (by show _ ≤ w.heap.size + 1 + 1; omega) _⟩
  · go_wp2
    exact ret_rng rfl rfl rfl (HR9 _ _).1 (HR9 _ _).2 ⟨by rw [HR.out]; rfl, (HBS.out.setCell (p := ⟨w.heap.size + 1 + 1, 0, none⟩) (by show _ ≤ w.heap.size + 1 + 1; omega) _).setCell (p := ⟨w.heap.size + 1 + 1, 1, none⟩) (by show _ ≤ w.heap.size + 1 + 1; omega) _⟩
  all_goals done


set_option maxRecDepth 40000 in
set_option maxHeartbeats 8000000 in
theorem asked_hits_any (r cc : Int) (p : Option Addr) (n c : Nat) (l : List Int) (sm : Int) (q : Option Addr) (m d : Nat) (cs : List Cnt) (bp pl : Nat) (w : World)
    (hl : IntsAt w p n l) (hcs : CntsAt w q m cs) (hm : m ≤ 100) (hf : faultL r cc l sm cs = 0) (hbp : w.cell? ⟨bp, 0, none⟩ = some (.int .i64 pl)) (hpl : pl < n) :
    Calls Try.prog 71 #[.agg #[.func (.func 84) #[] #[.pointer (some ⟨bp, 0, none⟩)]], .agg #[.int .i64 r, .int .i64 cc, .slice p n c, .int .i64 sm, .slice q m d]] w fun e w' =>
      e = .returned (.tuple #[.agg #[.int .i64 (askV (rngP (fun x => x[pl]?.getD 0) (genP (okP cs [] cc sm) l 0 []))).1, .int .i64 (askV (rngP (fun x => x[pl]?.getD 0) (genP (okP cs [] cc sm) l 0 []))).2.1], .int .i64 (askV (rngP (fun x => x[pl]?.getD 0) (genP (okP cs [] cc sm) l 0 []))).2.2]) ∧ Below w.heap.size w w' := by
  have HFF := field_facts (fault0 hf).2.1
  have HSM : Hid (0 ≤ sm ∧ sm ≤ 9) := by
    show _ ∧ _
    have := (fault0 hf).2.2.1; simpa [inB] using this
  have HN9 : Hid (n ≤ 9) := by have := HFF.2.2.2.2.2.2.1; have := hl.1; show n ≤ 9; omega
  have HSB := hid HFF.2.2.2.2.2.2.2
  have HC1 := hid HFF.2.2.1
  have HC4 := hid HFF.2.2.2.1
  have HLEN := hid hl.1
  have HOF : Hid (∀ W, Below w.heap.size w W → ∀ x ∈ genP (okP cs [] cc sm) l 0 [], Calls Try.prog 84 #[.agg #[.int .i64 r, .int .i64 cc, .slice p n c], hitsV x, .pointer (some ⟨bp, 0, none⟩)] W fun e W' => e = .returned (.int .i64 ((fun x => x[pl]?.getD 0) x)) ∧ Below W.heap.size W W') := by
    intro W hW x hx
    have hxb := listed_bd (genP_listed hx) HSB.out
    exact hits1_any r cc p n c x bp pl W ((hW.cell (World.block_lt_of_cell? _ _ hbp)).trans hbp) (by have := HN9.out; omega)
  clear hbp hpl
  have HL := hid hl
  have HCS := hid hcs
  obtain ⟨⟨lo, hi, is⟩, hR⟩ : ∃ st, rngP (fun x => x[pl]?.getD 0) (genP (okP cs [] cc sm) l 0 []) = st := ⟨_, rfl⟩
  have HR := hid hR
  clear hl hcs hf HFF hR
  obtain ⟨W2, hW2⟩ : ∃ W2, ((w.alloc (.cells #[.func (.func 84) #[] #[.pointer (some ⟨bp, 0, none⟩)]] 106)).alloc (.cells #[.int .i64 r, .int .i64 cc, .slice p n c, .int .i64 sm, .slice q m d] 36)).alloc (.cells #[.int .i64 0, .int .i64 0] 62) = W2 := ⟨_, rfl⟩
  have B1 : Boxed1 w #[.func (.func 84) #[] #[.pointer (some ⟨bp, 0, none⟩)]] 106 W2 := by rw [← hW2]; exact ((Boxed1.start _ _ _).alloc _).alloc _
  have B2 : Boxed1 (w.alloc (.cells #[.func (.func 84) #[] #[.pointer (some ⟨bp, 0, none⟩)]] 106)) #[.int .i64 r, .int .i64 cc, .slice p n c, .int .i64 sm, .slice q m d] 36 W2 := by rw [← hW2]; exact (Boxed1.start _ _ _).alloc _
  have B3 : Boxed1 ((w.alloc (.cells #[.func (.func 84) #[] #[.pointer (some ⟨bp, 0, none⟩)]] 106)).alloc (.cells #[.int .i64 r, .int .i64 cc, .slice p n c, .int .i64 sm, .slice q m d] 36)) #[.int .i64 0, .int .i64 0] 62 W2 := by rw [← hW2]; exact Boxed1.start _ _ _
  have HB := hid B1.below
  have HB2 := hid B2
  have HB3 := hid B3
  have HSZ : Hid (W2.heap.size = w.heap.size + 3) := by rw [← hW2]; simp [Hid]
  have HV : Hid (∀ V, Below W2.heap.size W2 V → V.cell? ⟨w.heap.size, 0, none⟩ = some (.func (.func 84) #[] #[.pointer (some ⟨bp, 0, none⟩)]) ∧ V.cell? ⟨w.heap.size + 1, 0, none⟩ = some (.int .i64 r) ∧ V.cell? ⟨w.heap.size + 1, 1, none⟩ = some (.int .i64 cc) ∧ V.cell? ⟨w.heap.size + 1, 2, none⟩ = some (.slice p n c) ∧ V.cell? ⟨w.heap.size + 1, 3, none⟩ = some (.int .i64 sm) ∧ V.cell? ⟨w.heap.size + 1, 4, none⟩ = some (.slice q m d)) := by
    intro V hV
    have kk : ∀ (p : Addr) (v : Value), W2.cell? p = some v → V.cell? p = some v := fun p v h => (hV.cell (World.block_lt_of_cell? _ _ h)).trans h
    have e := World.size_alloc w (.cells #[.func (.func 84) #[] #[.pointer (some ⟨bp, 0, none⟩)]] 106)
    exact ⟨kk _ _ (B1.cell 0 rfl), kk _ _ (e ▸ B2.cell 0 rfl), kk _ _ (e ▸ B2.cell 1 rfl), kk _ _ (e ▸ B2.cell 2 rfl), kk _ _ (e ▸ B2.cell 3 rfl), kk _ _ (e ▸ B2.cell 4 rfl)⟩
  clear B1 B2 B3
  go_enter Try.func71, Try.ntmps71
  go_wp2_with fail
  refine wp_region_held_drew (S := fun V => Below W2.heap.size W2 V) (by kernel_rfl) (Below.refl _ _).drew (fun hS => ?_)
  simp only [List.size_toArray, List.length_cons, List.length_nil, Nat.reduceAdd, Array.replicate_succ, Array.replicate_zero, List.push_toArray, List.nil_append, List.cons_append]
  refine wpAnyH_take (i := 0) (v := ?_) rfl (by kernel_rfl) (by kernel_rfl) (by kernel_rfl) (fun _ _ _ h => h) (Or.inl ⟨by rfl, fun V hV => ?_⟩) (by assumption) ?_
  rotate_left
  · have ⟨v0, v1, v2, v3, v4, v5⟩ := HV.out V hV; go_simp
    try with_reducible rfl
  try simp only [Act.put, List.getElem_toArray, List.getElem_cons_zero, List.setIfInBounds_toArray, List.set_cons_zero, List.set_cons_succ]
  refine wpAnyH_take (i := 1) (v := ?_) rfl (by kernel_rfl) (by kernel_rfl) (by kernel_rfl) (fun _ _ _ h => h) (Or.inl ⟨by rfl, fun V hV => ?_⟩) (by assumption) ?_
  rotate_left
  · have ⟨v0, v1, v2, v3, v4, v5⟩ := HV.out V hV; go_simp
    try with_reducible rfl
  try simp only [Act.put, List.getElem_toArray, List.getElem_cons_zero, List.getElem_cons_succ, List.setIfInBounds_toArray, List.set_cons_zero, List.set_cons_succ]
  refine wpAnyH_ready (rs := [2, 7]) (by kernel_rfl) (by simp) ?_
  refine AllReadyH.cons (o := _) rfl (fun K hK => ?_) ?_
  · skip
    go_simp
    have hX := hS.size
    refine (work_any _ _ _ _ _ _ _ _ _ _ _ _ _).mono ?_
    rintro e V2 ⟨rfl, hwork, hmap, hz, hb⟩
    have hS2 := hS.trans (hb.mono hS.size)
    have hX2 : W2.heap.size ≤ W2.drew.heap.size + 1 := by omega
    have hA2 : V2.heap.size ≠ W2.drew.heap.size + 1 := by have := hmap.lt; omega
    clear hz
    refine hK.out _ _ (hS2) (fun hS => ?_)
    clear hK K
    try simp only [List.setIfInBounds_toArray, List.set_cons_zero, List.set_cons_succ]
    refine wpAnyH_ready (rs := [3, 7]) (by kernel_rfl) (by simp) ?_
    refine AllReadyH.cons (o := _) rfl (fun K hK => ?_) ?_
    · skip
      go_simp
      refine (bounds_hits_any_st (fun x => x[pl]?.getD 0) HR.out _ (hwork.below (Below.refl _ _)) (HL.out.below (HB.out.trans (hS.mono HB.out.size))) (HCS.out.below (HB.out.trans (hS.mono HB.out.size))) (IntsAt.nil _) (hmap.below (Below.refl _ _)) HN9.out (by omega) (by omega) HSB.out HC1.out HC4.out HSM.out.1 HSM.out.2 (fun W hW x hx => HOF.out W (HB.out.trans ((hS.trans (hW.below hS.size (fun k hk e => by omega))).mono HB.out.size)) x hx)).mono ?_
      rintro e V3 ⟨rfl, hn3⟩
      refine hK.out _ _ (hS.trans (hn3.below hS.size (fun k hk e => by omega))) (fun hS => ?_)
      clear hK K
      try simp only [List.setIfInBounds_toArray, List.set_cons_zero, List.set_cons_succ]
      refine wpAnyH_take (i := 4) (v := ?_) rfl (by kernel_rfl) (by kernel_rfl) (by kernel_rfl) (fun _ _ _ h => h) (Or.inl ⟨by rfl, fun V hV => ?_⟩) (by assumption) ?_
      rotate_left
      · go_simp
        try with_reducible rfl
      try simp only [Act.put, List.getElem_toArray, List.getElem_cons_zero, List.getElem_cons_succ, List.setIfInBounds_toArray, List.set_cons_zero, List.set_cons_succ]
      refine wpAnyH_take (i := 5) (v := ?_) rfl (by kernel_rfl) (by kernel_rfl) (by kernel_rfl) (fun _ _ _ h => h) (Or.inl ⟨by rfl, fun V hV => ?_⟩) (by assumption) ?_
      rotate_left
      · go_simp
        try with_reducible rfl
      try simp only [Act.put, List.getElem_toArray, List.getElem_cons_zero, List.getElem_cons_succ, List.setIfInBounds_toArray, List.set_cons_zero, List.set_cons_succ]
      refine wpAnyH_take (i := 6) (v := ?_) rfl (by kernel_rfl) (by kernel_rfl) (by kernel_rfl) (fun _ _ _ h => h) (Or.inl ⟨by rfl, fun V hV => ?_⟩) (by assumption) ?_
      rotate_left
      · go_simp
        try with_reducible rfl
      try simp only [Act.put, List.getElem_toArray, List.getElem_cons_zero, List.getElem_cons_succ, List.setIfInBounds_toArray, List.set_cons_zero, List.set_cons_succ]
      refine wpAnyH_ready (rs := [7]) (by kernel_rfl) (by simp) ?_
      refine AllReadyH.cons (o := _) rfl (fun K hK => ?_) AllReadyH.nil
      obtain ⟨V7, hV7⟩ : ∃ V7, V3.alloc (.cells #[.int .i64 0, .int .i64 0] 62) = V7 := ⟨_, rfl⟩
      have a0 : V7.cell? ⟨V3.heap.size, 0, none⟩ = some (.int .i64 0) := by rw [← hV7]; exact cell_box V3 _ 62 0 _ rfl
      have a1 : V7.cell? ⟨V3.heap.size, 1, none⟩ = some (.int .i64 0) := by rw [← hV7]; exact cell_box V3 _ 62 1 _ rfl
      have b0 : V7.frozen? ⟨V3.heap.size, 0, none⟩ = false := by rw [← hV7]; exact frozen_new V3 _ 62 0 rfl
      have b1 : V7.frozen? ⟨V3.heap.size, 1, none⟩ = false := by rw [← hV7]; exact frozen_new V3 _ 62 1 rfl
      have hb7 : Below V3.heap.size V3 V7 := by rw [← hV7]; exact (Below.refl _ _).alloc (Nat.le_refl _) _
      have hz7 : V7.heap.size = V3.heap.size + 1 := by rw [← hV7]; simp
      have hA : V3.heap.size < V7.heap.size := by omega
      have hA0 : W2.heap.size ≤ V3.heap.size := hS.size
      clear hz7
      go_simp
      refine hK.out _ _ (hS.trans (hb7.mono hS.size)) (fun hS => ?_)
      clear hK K
      try simp only [List.setIfInBounds_toArray, List.set_cons_zero, List.set_cons_succ]
      refine wpAnyH_ready (rs := [8]) (by kernel_rfl) (by simp) ?_
      refine AllReadyH.cons (o := _) rfl (fun K hK => ?_) AllReadyH.nil
      go_simp
      refine hK.out _ _ ((hS.setCell (p := ⟨V3.heap.size, 0, none⟩) hA0 _).setCell (p := ⟨V3.heap.size, 1, none⟩) hA0 _) (fun hS => ?_)
      clear hK K
      try simp only [List.setIfInBounds_toArray, List.set_cons_zero, List.set_cons_succ]
      refine wpAnyH_take (i := 9) (v := ?_) rfl (by kernel_rfl) (by kernel_rfl) (by kernel_rfl) (fun _ _ _ h => h) (Or.inl ⟨by rfl, fun V hV => ?_⟩) (by assumption) ?_
      rotate_left
      · go_simp
        try with_reducible rfl
      try simp only [Act.put, List.getElem_toArray, List.getElem_cons_zero, List.getElem_cons_succ, List.setIfInBounds_toArray, List.set_cons_zero, List.set_cons_succ]
      refine wpAnyH_done (by kernel_rfl) ?_ _
      have ⟨q0, q1⟩ := set2 a0 a1 (.int .i64 lo) (.int .i64 hi)
      obtain ⟨W9, hW9⟩ : ∃ W9, (V7.setCell ⟨V3.heap.size, 0, none⟩ (.int .i64 lo)).setCell ⟨V3.heap.size, 1, none⟩ (.int .i64 hi) = W9 := ⟨_, rfl⟩
      rw [hW9] at q0 q1 hS ⊢
      have hs2 : (w.alloc (.cells #[.func (.func 84) #[] #[.pointer (some ⟨bp, 0, none⟩)]] 106)).heap.size + 1 = w.heap.size + 1 + 1 := by simp
      have t0 := (hS.cell (World.block_lt_of_cell? _ _ (HB3.out.cell 0 rfl))).trans (HB3.out.cell 0 rfl)
      have t1 := (hS.cell (World.block_lt_of_cell? _ _ (HB3.out.cell 1 rfl))).trans (HB3.out.cell 1 rfl)
      have f0 := (hS.frozen (World.block_lt_of_cell? _ _ (HB3.out.cell 0 rfl))).trans (HB3.out.fz 0 rfl)
      have f1 := (hS.frozen (World.block_lt_of_cell? _ _ (HB3.out.cell 1 rfl))).trans (HB3.out.fz 1 rfl)
      simp only [World.size_alloc] at t0 t1 f0 f1
      clear a0 a1 b0 b1 hW9
      have HBS : Hid (Below w.heap.size w W9) := HB.out.trans (hS.mono HB.out.size)
      have HR9 := set2 t0 t1
      cases is
      · go_wp2
        exact ret_rng rfl rfl rfl (HR9 _ _).1 (HR9 _ _).2 ⟨by rw [HR.out]; rfl, (HBS.out.setCell (p := ⟨w.heap.size + 1 + 1, 0, none⟩) (by show _ ≤ w.heap.size + 1 + 1; omega) _).setCell (p := ⟨w.heap.size + 1 + 1, 1, none⟩) (by show _ ≤ w.heap.size + 1 + 1; omega) _⟩
      · go_wp2
        exact ret_rng rfl rfl rfl (HR9 _ _).1 (HR9 _ _).2 ⟨by rw [HR.out]; rfl, (HBS.out.setCell (p := ⟨w.heap.size + 1 + 1, 0, none⟩) (by show _ ≤ w.heap.size + 1 + 1; omega) _).setCell (p := ⟨w.heap.size + 1 + 1, 1, none⟩) (by show _ ≤ w.heap.size + 1 + 1; omega) _⟩
    refine AllReadyH.cons (o := _) rfl (fun K hK => ?_) AllReadyH.nil
    obtain ⟨V7, hV7⟩ : ∃ V7, V2.alloc (.cells #[.int .i64 0, .int .i64 0] 62) = V7 := ⟨_, rfl⟩
    have a0 : V7.cell? ⟨V2.heap.size, 0, none⟩ = some (.int .i64 0) := by rw [← hV7]; exact cell_box V2 _ 62 0 _ rfl
    have a1 : V7.cell? ⟨V2.heap.size, 1, none⟩ = some (.int .i64 0) := by rw [← hV7]; exact cell_box V2 _ 62 1 _ rfl
    have b0 : V7.frozen? ⟨V2.heap.size, 0, none⟩ = false := by rw [← hV7]; exact frozen_new V2 _ 62 0 rfl
    have b1 : V7.frozen? ⟨V2.heap.size, 1, none⟩ = false := by rw [← hV7]; exact frozen_new V2 _ 62 1 rfl
    have hb7 : Below V2.heap.size V2 V7 := by rw [← hV7]; exact (Below.refl _ _).alloc (Nat.le_refl _) _
    have hz7 : V7.heap.size = V2.heap.size + 1 := by rw [← hV7]; simp
    have hA : V2.heap.size < V7.heap.size := by omega
    have hA0 : W2.heap.size ≤ V2.heap.size := hS.size
    clear hz7
    go_simp
    refine hK.out _ _ (hS.trans (hb7.mono hS.size)) (fun hS => ?_)
    clear hK K
    try simp only [List.setIfInBounds_toArray, List.set_cons_zero, List.set_cons_succ]
    refine wpAnyH_ready (rs := [3]) (by kernel_rfl) (by simp) ?_
    refine AllReadyH.cons (o := _) rfl (fun K hK => ?_) AllReadyH.nil
    go_simp
    refine (bounds_hits_any_st (fun x => x[pl]?.getD 0) HR.out _ (hwork.below hb7) (HL.out.below (HB.out.trans (hS.mono HB.out.size))) (HCS.out.below (HB.out.trans (hS.mono HB.out.size))) (IntsAt.nil _) (hmap.below hb7) HN9.out (by omega) (by omega) HSB.out HC1.out HC4.out HSM.out.1 HSM.out.2 (fun W hW x hx => HOF.out W (HB.out.trans ((hS.trans (hW.below hS.size (fun k hk e => by omega))).mono HB.out.size)) x hx)).mono ?_
    rintro e V3 ⟨rfl, hn3⟩
    replace b0 := near_frozen (p := ⟨V2.heap.size, 0, none⟩) a0 b0 hn3 hA2
    replace b1 := near_frozen (p := ⟨V2.heap.size, 1, none⟩) a1 b1 hn3 hA2
    replace a0 := near_cell (p := ⟨V2.heap.size, 0, none⟩) a0 hn3 hA2
    replace a1 := near_cell (p := ⟨V2.heap.size, 1, none⟩) a1 hn3 hA2
    refine hK.out _ _ (hS.trans (hn3.below hS.size (fun k hk e => by omega))) (fun hS => ?_)
    clear hK K
    try simp only [List.setIfInBounds_toArray, List.set_cons_zero, List.set_cons_succ]
    refine wpAnyH_take (i := 4) (v := ?_) rfl (by kernel_rfl) (by kernel_rfl) (by kernel_rfl) (fun _ _ _ h => h) (Or.inl ⟨by rfl, fun V hV => ?_⟩) (by assumption) ?_
    rotate_left
    · go_simp
      try with_reducible rfl
    try simp only [Act.put, List.getElem_toArray, List.getElem_cons_zero, List.getElem_cons_succ, List.setIfInBounds_toArray, List.set_cons_zero, List.set_cons_succ]
    refine wpAnyH_take (i := 5) (v := ?_) rfl (by kernel_rfl) (by kernel_rfl) (by kernel_rfl) (fun _ _ _ h => h) (Or.inl ⟨by rfl, fun V hV => ?_⟩) (by assumption) ?_
    rotate_left
    · go_simp
      try with_reducible rfl
    try simp only [Act.put, List.getElem_toArray, List.getElem_cons_zero, List.getElem_cons_succ, List.setIfInBounds_toArray, List.set_cons_zero, List.set_cons_succ]
    refine wpAnyH_take (i := 6) (v := ?_) rfl (by kernel_rfl) (by kernel_rfl) (by kernel_rfl) (fun _ _ _ h => h) (Or.inl ⟨by rfl, fun V hV => ?_⟩) (by assumption) ?_
    rotate_left
    · go_simp
      try with_reducible rfl
    try simp only [Act.put, List.getElem_toArray, List.getElem_cons_zero, List.getElem_cons_succ, List.setIfInBounds_toArray, List.set_cons_zero, List.set_cons_succ]
    refine wpAnyH_ready (rs := [8]) (by kernel_rfl) (by simp) ?_
    refine AllReadyH.cons (o := _) rfl (fun K hK => ?_) AllReadyH.nil
    go_simp
    refine hK.out _ _ ((hS.setCell (p := ⟨V2.heap.size, 0, none⟩) hA0 _).setCell (p := ⟨V2.heap.size, 1, none⟩) hA0 _) (fun hS => ?_)
    clear hK K
    try simp only [List.setIfInBounds_toArray, List.set_cons_zero, List.set_cons_succ]
    refine wpAnyH_take (i := 9) (v := ?_) rfl (by kernel_rfl) (by kernel_rfl) (by kernel_rfl) (fun _ _ _ h => h) (Or.inl ⟨by rfl, fun V hV => ?_⟩) (by assumption) ?_
    rotate_left
    · go_simp
      try with_reducible rfl
    try simp only [Act.put, List.getElem_toArray, List.getElem_cons_zero, List.getElem_cons_succ, List.setIfInBounds_toArray, List.set_cons_zero, List.set_cons_succ]
    refine wpAnyH_done (by kernel_rfl) ?_ _
    have ⟨q0, q1⟩ := set2 a0 a1 (.int .i64 lo) (.int .i64 hi)
    obtain ⟨W9, hW9⟩ : ∃ W9, (V3.setCell ⟨V2.heap.size, 0, none⟩ (.int .i64 lo)).setCell ⟨V2.heap.size, 1, none⟩ (.int .i64 hi) = W9 := ⟨_, rfl⟩
    rw [hW9] at q0 q1 hS ⊢
    have hs2 : (w.alloc (.cells #[.func (.func 84) #[] #[.pointer (some ⟨bp, 0, none⟩)]] 106)).heap.size + 1 = w.heap.size + 1 + 1 := by simp
    have t0 := (hS.cell (World.block_lt_of_cell? _ _ (HB3.out.cell 0 rfl))).trans (HB3.out.cell 0 rfl)
    have t1 := (hS.cell (World.block_lt_of_cell? _ _ (HB3.out.cell 1 rfl))).trans (HB3.out.cell 1 rfl)
    have f0 := (hS.frozen (World.block_lt_of_cell? _ _ (HB3.out.cell 0 rfl))).trans (HB3.out.fz 0 rfl)
    have f1 := (hS.frozen (World.block_lt_of_cell? _ _ (HB3.out.cell 1 rfl))).trans (HB3.out.fz 1 rfl)
    simp only [World.size_alloc] at t0 t1 f0 f1
    clear a0 a1 b0 b1 hW9
    have HBS : Hid (Below w.heap.size w W9) := HB.out.trans (hS.mono HB.out.size)
    have HR9 := set2 t0 t1
    cases is
    · go_wp2
      exact ret_rng rfl rfl rfl (HR9 _ _).1 (HR9 _ _).2 ⟨by rw [HR.out]; rfl, (HBS.out.setCell (p := ⟨w.heap.size + 1 + 1, 0, none⟩) (by show _ ≤ w.heap.size + 1 + 1; omega) _).setCell (p := ⟨w.heap.size + 1 + 1, 1, none⟩) (by show _ ≤ w.heap.size + 1 + 1; omega) _⟩
    · go_wp2
      exact ret_rng rfl rfl rfl (HR9 _ _).1 (HR9 _ _).2 ⟨by rw [HR.out]; rfl, (HBS.out.setCell (p := ⟨w.heap.size + 1 + 1, 0, none⟩) (by show _ ≤ w.heap.size + 1 + 1; omega) _).setCell (p := ⟨w.heap.size + 1 + 1, 1, none⟩) (by show _ ≤ w.heap.size + 1 + 1; omega) _⟩
  refine AllReadyH.cons (o := _) rfl (fun K hK => ?_) AllReadyH.nil
  obtain ⟨V7, hV7⟩ : ∃ V7, (W2.alloc (.cells #[.int .i64 0, .int .i64 0] 62)).drew = V7 := ⟨_, rfl⟩
  have a0 : V7.cell? ⟨W2.heap.size, 0, none⟩ = some (.int .i64 0) := by rw [← hV7]; exact cell_box W2 _ 62 0 _ rfl
  have a1 : V7.cell? ⟨W2.heap.size, 1, none⟩ = some (.int .i64 0) := by rw [← hV7]; exact cell_box W2 _ 62 1 _ rfl
  have b0 : V7.frozen? ⟨W2.heap.size, 0, none⟩ = false := by rw [← hV7]; exact frozen_new W2 _ 62 0 rfl
  have b1 : V7.frozen? ⟨W2.heap.size, 1, none⟩ = false := by rw [← hV7]; exact frozen_new W2 _ 62 1 rfl
  have hb7 : Below W2.heap.size W2 V7 := by rw [← hV7]; exact ((Below.refl _ _).alloc (Nat.le_refl _) _).drew
  have hz7 : V7.heap.size = W2.heap.size + 1 := by rw [← hV7]; simp
  have hA : W2.heap.size < V7.heap.size := by omega
  have hA0 : W2.heap.size ≤ W2.heap.size := hS.size
  clear hz7
  go_simp
  refine hK.out _ _ (hb7) (fun hS => ?_)
  clear hK K
  try simp only [List.setIfInBounds_toArray, List.set_cons_zero, List.set_cons_succ]
  refine wpAnyH_ready (rs := [2]) (by kernel_rfl) (by simp) ?_
  refine AllReadyH.cons (o := _) rfl (fun K hK => ?_) AllReadyH.nil
  go_simp
  have hX := hS.size
  refine (work_any _ _ _ _ _ _ _ _ _ _ _ _ _).mono ?_
  rintro e V2 ⟨rfl, hwork, hmap, hz, hb⟩
  have hS2 := hS.trans (hb.mono hS.size)
  have hX2 : W2.heap.size ≤ V7.heap.size + 1 := by omega
  have hnb : Near (fun _ => False) V7 V2 := Near.of_below hb (fun k h1 h2 => by omega)
  replace b0 := near_frozen (p := ⟨W2.heap.size, 0, none⟩) a0 b0 hnb (fun h => h)
  replace b1 := near_frozen (p := ⟨W2.heap.size, 1, none⟩) a1 b1 hnb (fun h => h)
  replace a0 := near_cell (p := ⟨W2.heap.size, 0, none⟩) a0 hnb (fun h => h)
  replace a1 := near_cell (p := ⟨W2.heap.size, 1, none⟩) a1 hnb (fun h => h)
  have hAne : W2.heap.size ≠ V7.heap.size + 1 := by omega
  clear hz
  refine hK.out _ _ (hS2) (fun hS => ?_)
  clear hK K
  try simp only [List.setIfInBounds_toArray, List.set_cons_zero, List.set_cons_succ]
  refine wpAnyH_ready (rs := [3]) (by kernel_rfl) (by simp) ?_
  refine AllReadyH.cons (o := _) rfl (fun K hK => ?_) AllReadyH.nil
  go_simp
  refine (bounds_hits_any_st (fun x => x[pl]?.getD 0) HR.out _ (hwork.below (Below.refl _ _)) (HL.out.below (HB.out.trans (hS.mono HB.out.size))) (HCS.out.below (HB.out.trans (hS.mono HB.out.size))) (IntsAt.nil _) (hmap.below (Below.refl _ _)) HN9.out (by omega) (by omega) HSB.out HC1.out HC4.out HSM.out.1 HSM.out.2 (fun W hW x hx => HOF.out W (HB.out.trans ((hS.trans (hW.below hS.size (fun k hk e => by omega))).mono HB.out.size)) x hx)).mono ?_
  rintro e V3 ⟨rfl, hn3⟩
  replace b0 := near_frozen (p := ⟨W2.heap.size, 0, none⟩) a0 b0 hn3 hAne
  replace b1 := near_frozen (p := ⟨W2.heap.size, 1, none⟩) a1 b1 hn3 hAne
  replace a0 := near_cell (p := ⟨W2.heap.size, 0, none⟩) a0 hn3 hAne
  replace a1 := near_cell (p := ⟨W2.heap.size, 1, none⟩) a1 hn3 hAne
  refine hK.out _ _ (hS.trans (hn3.below hS.size (fun k hk e => by omega))) (fun hS => ?_)
  clear hK K
  try simp only [List.setIfInBounds_toArray, List.set_cons_zero, List.set_cons_succ]
  refine wpAnyH_take (i := 4) (v := ?_) rfl (by kernel_rfl) (by kernel_rfl) (by kernel_rfl) (fun _ _ _ h => h) (Or.inl ⟨by rfl, fun V hV => ?_⟩) (by assumption) ?_
  rotate_left
  · go_simp
    try with_reducible rfl
  try simp only [Act.put, List.getElem_toArray, List.getElem_cons_zero, List.getElem_cons_succ, List.setIfInBounds_toArray, List.set_cons_zero, List.set_cons_succ]
  refine wpAnyH_take (i := 5) (v := ?_) rfl (by kernel_rfl) (by kernel_rfl) (by kernel_rfl) (fun _ _ _ h => h) (Or.inl ⟨by rfl, fun V hV => ?_⟩) (by assumption) ?_
  rotate_left
  · go_simp
    try with_reducible rfl
  try simp only [Act.put, List.getElem_toArray, List.getElem_cons_zero, List.getElem_cons_succ, List.setIfInBounds_toArray, List.set_cons_zero, List.set_cons_succ]
  refine wpAnyH_take (i := 6) (v := ?_) rfl (by kernel_rfl) (by kernel_rfl) (by kernel_rfl) (fun _ _ _ h => h) (Or.inl ⟨by rfl, fun V hV => ?_⟩) (by assumption) ?_
  rotate_left
  · go_simp
    try with_reducible rfl
  try simp only [Act.put, List.getElem_toArray, List.getElem_cons_zero, List.getElem_cons_succ, List.setIfInBounds_toArray, List.set_cons_zero, List.set_cons_succ]
  refine wpAnyH_ready (rs := [8]) (by kernel_rfl) (by simp) ?_
  refine AllReadyH.cons (o := _) rfl (fun K hK => ?_) AllReadyH.nil
  go_simp
  refine hK.out _ _ ((hS.setCell (p := ⟨W2.heap.size, 0, none⟩) hA0 _).setCell (p := ⟨W2.heap.size, 1, none⟩) hA0 _) (fun hS => ?_)
  clear hK K
  try simp only [List.setIfInBounds_toArray, List.set_cons_zero, List.set_cons_succ]
  refine wpAnyH_take (i := 9) (v := ?_) rfl (by kernel_rfl) (by kernel_rfl) (by kernel_rfl) (fun _ _ _ h => h) (Or.inl ⟨by rfl, fun V hV => ?_⟩) (by assumption) ?_
  rotate_left
  · go_simp
    try with_reducible rfl
  try simp only [Act.put, List.getElem_toArray, List.getElem_cons_zero, List.getElem_cons_succ, List.setIfInBounds_toArray, List.set_cons_zero, List.set_cons_succ]
  refine wpAnyH_done (by kernel_rfl) ?_ _
  have ⟨q0, q1⟩ := set2 a0 a1 (.int .i64 lo) (.int .i64 hi)
  obtain ⟨W9, hW9⟩ : ∃ W9, (V3.setCell ⟨W2.heap.size, 0, none⟩ (.int .i64 lo)).setCell ⟨W2.heap.size, 1, none⟩ (.int .i64 hi) = W9 := ⟨_, rfl⟩
  rw [hW9] at q0 q1 hS ⊢
  have hs2 : (w.alloc (.cells #[.func (.func 84) #[] #[.pointer (some ⟨bp, 0, none⟩)]] 106)).heap.size + 1 = w.heap.size + 1 + 1 := by simp
  have t0 := (hS.cell (World.block_lt_of_cell? _ _ (HB3.out.cell 0 rfl))).trans (HB3.out.cell 0 rfl)
  have t1 := (hS.cell (World.block_lt_of_cell? _ _ (HB3.out.cell 1 rfl))).trans (HB3.out.cell 1 rfl)
  have f0 := (hS.frozen (World.block_lt_of_cell? _ _ (HB3.out.cell 0 rfl))).trans (HB3.out.fz 0 rfl)
  have f1 := (hS.frozen (World.block_lt_of_cell? _ _ (HB3.out.cell 1 rfl))).trans (HB3.out.fz 1 rfl)
  simp only [World.size_alloc] at t0 t1 f0 f1
  clear a0 a1 b0 b1 hW9
  have HBS : Hid (Below w.heap.size w W9) := HB.out.trans (hS.mono HB.out.size)
  have HR9 := set2 t0 t1
  cases is
  · go_wp2
    exact ret_rng rfl rfl rfl (HR9 _ _).1 (HR9 _ _).2 ⟨by rw [HR.out]; rfl, (HBS.out.setCell (p := ⟨w.heap.size + 1 + 1, 0, none⟩) (by show _ ≤ w.heap.size + 1 + 1; omega) _).setCell (p := ⟨w.heap.size + 1 + 1, 1, none⟩) (by show _ ≤ w.heap.size + 1 + 1; omega) _⟩
  · go_wp2
    exact ret_rng rfl rfl rfl (HR9 _ _).1 (HR9 _ _).2 ⟨by rw [HR.out]; rfl, (HBS.out.setCell (p := ⟨w.heap.size + 1 + 1, 0, none⟩) (by show _ ≤ w.heap.size + 1 + 1; omega) _).setCell (p := ⟨w.heap.size + 1 + 1, 1, none⟩) (by show _ ≤ w.heap.size + 1 + 1; omega) _⟩
  all_goals done

end Go.Proofs.Ytlicijnaacdceaa
