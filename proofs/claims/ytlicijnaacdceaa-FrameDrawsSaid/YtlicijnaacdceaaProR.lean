/- question.bounds of the program, asked for the share. -/
import Derived.Test.YtlicijnaacdceaaProQ
import Derived.Test.YtlicijnaacdceaaRanB
import Derived.Laws.EntriesVeiled
namespace Go.Proofs.Ytlicijnaacdceaa
open Go.RowKit
attribute [local go_sem] Oper.semAt_some

/-- One more truth, for the bounds. -/
def rngS (F : List Int → Int) (st : Int × Int × Bool) (x : List Int) : Int × Int × Bool :=
  (minI (if st.2.2 = true then st.1 else F x) (F x), (if (if st.2.2 = true then st.2.1 else F x) < F x then F x else (if st.2.2 = true then st.2.1 else F x)), true)
def rngP (F : List Int → Int) (xs : List (List Int)) : Int × Int × Bool := xs.foldl (rngS F) (0, 0, false)
theorem rngP_snoc (F : List Int → Int) (xs : List (List Int)) (x : List Int) : rngP F (xs ++ [x]) = rngS F (rngP F xs) x := by simp [rngP]

theorem Boxed1.fz {w : World} {cs : Array Value} {T : TypeId} {W : World} (h : Boxed1 w cs T W) (k : Nat) (hk : (cs[k]?).isSome = true) : W.frozen? ⟨w.heap.size, k, none⟩ = false :=
  (Below.frozen h (p := ⟨w.heap.size, k, none⟩) (by simp)).trans (frozen_new w cs T k hk)

/-- The cells of a search for bounds: its question, its work, what it has. -/
structure BInv (w : World) (g : Nat) (caps : Array Value) (b : Nat) (st : Int × Int × Bool) (W : World) : Prop where
  k0 : W.cell? ⟨w.heap.size, 0, none⟩ = some (.func (.func g) #[] caps)
  k1 : W.cell? ⟨w.heap.size + 1, 0, none⟩ = some (.pointer (some ⟨b, 0, none⟩))
  k2 : W.cell? ⟨w.heap.size + 1 + 1, 0, none⟩ = some (.int .i64 st.1)
  k3 : W.cell? ⟨w.heap.size + 1 + 1, 1, none⟩ = some (.int .i64 st.2.1)
  k4 : W.cell? ⟨w.heap.size + 1 + 1 + 1, 0, none⟩ = some (.bool st.2.2)
  z2 : W.frozen? ⟨w.heap.size + 1 + 1, 0, none⟩ = false
  z3 : W.frozen? ⟨w.heap.size + 1 + 1, 1, none⟩ = false
  z4 : W.frozen? ⟨w.heap.size + 1 + 1 + 1, 0, none⟩ = false

theorem BInv.near {w : World} {g : Nat} {caps : Array Value} {b : Nat} {st : Int × Int × Bool} {W1 W2 : World} {S : Nat → Prop} (h : BInv w g caps b st W1) (hn : Near S W1 W2) (hS : ∀ k, w.heap.size ≤ k → k < w.heap.size + 4 → ¬ S k) : BInv w g caps b st W2 :=
  ⟨near_cell h.k0 hn (hS _ (by simp <;> omega) (by simp <;> omega)), near_cell h.k1 hn (hS _ (by simp <;> omega) (by simp <;> omega)), near_cell h.k2 hn (hS _ (by simp <;> omega) (by simp <;> omega)), near_cell h.k3 hn (hS _ (by simp <;> omega) (by simp <;> omega)), near_cell h.k4 hn (hS _ (by simp <;> omega) (by simp <;> omega)),
    near_frozen h.k2 h.z2 hn (hS _ (by simp <;> omega) (by simp <;> omega)), near_frozen h.k3 h.z3 hn (hS _ (by simp <;> omega) (by simp <;> omega)), near_frozen h.k4 h.z4 hn (hS _ (by simp <;> omega) (by simp <;> omega))⟩

theorem BInv.set {w : World} {g : Nat} {caps : Array Value} {b : Nat} {st : Int × Int × Bool} {W : World} (h : BInv w g caps b st W) (x y : Int) : BInv w g caps b (x, y, st.2.2) ((W.setCell ⟨w.heap.size + 1 + 1, 0, none⟩ (.int .i64 x)).setCell ⟨w.heap.size + 1 + 1, 1, none⟩ (.int .i64 y)) := by
  have o : ∀ (p : Addr) (v : Value), W.cell? p = some v → p.block ≠ w.heap.size + 1 + 1 → ((W.setCell ⟨w.heap.size + 1 + 1, 0, none⟩ (.int .i64 x)).setCell ⟨w.heap.size + 1 + 1, 1, none⟩ (.int .i64 y)).cell? p = some v := by
    intro p v hp hne
    refine (World.cell?_of_block ?_).trans hp
    rw [Below.heap_setCell _ _ _ _ hne, Below.heap_setCell _ _ _ _ hne]
  refine ⟨o _ _ h.k0 (by simp <;> omega), o _ _ h.k1 (by simp <;> omega), ?_, ?_, o _ _ h.k4 (by simp <;> omega), by rw [World.frozen?_setCell, World.frozen?_setCell]; exact h.z2, by rw [World.frozen?_setCell, World.frozen?_setCell]; exact h.z3, by rw [World.frozen?_setCell, World.frozen?_setCell]; exact h.z4⟩
  · rw [World.cell?_setCell_other _ _ _ _ (by simp)]
    exact World.cell?_setCell_same' _ _ _ (by rw [h.k2]; rfl)
  · exact World.cell?_setCell_same' _ _ _ (by rw [World.cell?_setCell_other _ _ _ _ (by simp), h.k3]; rfl)
theorem BInv.flag {w : World} {g : Nat} {caps : Array Value} {b : Nat} {st : Int × Int × Bool} {W : World} (h : BInv w g caps b st W) (v : Bool) : BInv w g caps b (st.1, st.2.1, v) (W.setCell ⟨w.heap.size + 1 + 1 + 1, 0, none⟩ (.bool v)) := by
  have o : ∀ (p : Addr) (u : Value), W.cell? p = some u → p.block ≠ w.heap.size + 1 + 1 + 1 → (W.setCell ⟨w.heap.size + 1 + 1 + 1, 0, none⟩ (.bool v)).cell? p = some u := by
    intro p u hp hne
    refine (World.cell?_of_block ?_).trans hp
    rw [Below.heap_setCell _ _ _ _ hne]
  exact ⟨o _ _ h.k0 (by simp <;> omega), o _ _ h.k1 (by simp <;> omega), o _ _ h.k2 (by simp <;> omega), o _ _ h.k3 (by simp <;> omega), World.cell?_setCell_same' _ _ _ (by rw [h.k4]; rfl), by rw [World.frozen?_setCell]; exact h.z2, by rw [World.frozen?_setCell]; exact h.z3, by rw [World.frozen?_setCell]; exact h.z4⟩

theorem wpIn_region_held_wide {P : Program} {ops : Array Oper} {Q : Exit → Act → World → Prop} {n : Nat} {S : World → Prop} {id : Nat} {a : Act} {w : World} (hm : P.follows .mixedOrders = true) (hS : S w.drew)
    (h : S w.drew → wpAnyH P .any ops Q S ops.size (Array.replicate ops.size false) a w.drew) : (Code.region id ops true).wpIn Fence.wide n P Q a w :=
  wpIn_wide.2 (wp_region_held_drew hm hS h)

set_option maxRecDepth 40000 in
set_option maxHeartbeats 8000000 in
theorem bounds_share_any (F : List Int → Int) {b bm : Nat} {r cc : Int} {p : Option Addr} {n c : Nat} {l : List Int} {sm : Int} {q : Option Addr} {m d : Nat} {cs : List Cnt} {po : Option Addr} {no co : Nat} {outl : List Int}  (w : World)
    (hwork : WorkAt w b r cc p n c sm q m d po no co bm) (hl : IntsAt w p n l) (hcs : CntsAt w q m cs) (ho : IntsAt w po no outl) (hmap : MapIs w 145 bm 0 (fun _ => none)) (hn : n ≤ 9) (hm : m ≤ 100) (hno : no ≤ 100) (hs : ∀ x ∈ l, 0 ≤ x ∧ x ≤ 9) (hc1 : 1 ≤ cc) (hc4 : cc ≤ 4) (hs0 : 0 ≤ sm) (hs9 : sm ≤ 9)
    (hof : ∀ W, Near (fun k => k = bm) w W → ∀ x ∈ genP (okP cs outl cc sm) l 0 [], Calls Try.prog 74 #[.agg #[.int .i64 r, .int .i64 cc, .slice p n c], hitsV x] W fun e W' => e = .returned (.int .i64 (F x)) ∧ Below W.heap.size W W') :
    Calls Try.prog 82 #[.agg #[.func (.func 74) #[] #[]], .pointer (some ⟨b, 0, none⟩)] w fun e w' => e = .returned (.tuple #[.agg #[.int .i64 (rngP F (genP (okP cs outl cc sm) l 0 [])).1, .int .i64 (rngP F (genP (okP cs outl cc sm) l 0 [])).2.1], .bool (rngP F (genP (okP cs outl cc sm) l 0 [])).2.2]) ∧ Near (fun k => k = bm) w w' := by
  refine (callsIn_wide (n := 9)).1 ?_
  have HW := hid hwork
  have HL := hid hl
  have HCS := hid hcs
  have HO := hid ho
  have HMP := hid hmap
  have HS := hid hs
  have HOF := hid hof
  have hbl := hwork.lt
  have hbml := hmap.lt
  have HBNE : Hid (b ≠ bm) := hmap.ne hwork.c0
  obtain ⟨W4, hW4⟩ : ∃ W4, (((w.alloc (.cells #[.func (.func 74) #[] #[]] 106)).alloc (.cells #[.pointer (some ⟨b, 0, none⟩)] 112)).alloc (.cells #[.int .i64 0, .int .i64 0] 62)).alloc (.cells #[.bool false] 4) = W4 := ⟨_, rfl⟩
  have B1 : Boxed1 w #[.func (.func 74) #[] #[]] 106 W4 := by rw [← hW4]; exact (((Boxed1.start _ _ _).alloc _).alloc _).alloc _
  have B2 : Boxed1 (w.alloc (.cells #[.func (.func 74) #[] #[]] 106)) #[.pointer (some ⟨b, 0, none⟩)] 112 W4 := by rw [← hW4]; exact ((Boxed1.start _ _ _).alloc _).alloc _
  have B3 : Boxed1 ((w.alloc (.cells #[.func (.func 74) #[] #[]] 106)).alloc (.cells #[.pointer (some ⟨b, 0, none⟩)] 112)) #[.int .i64 0, .int .i64 0] 62 W4 := by rw [← hW4]; exact (Boxed1.start _ _ _).alloc _
  have B4 : Boxed1 (((w.alloc (.cells #[.func (.func 74) #[] #[]] 106)).alloc (.cells #[.pointer (some ⟨b, 0, none⟩)] 112)).alloc (.cells #[.int .i64 0, .int .i64 0] 62)) #[.bool false] 4 W4 := by rw [← hW4]; exact Boxed1.start _ _ _
  have hsz4 : W4.heap.size = w.heap.size + 4 := by rw [← hW4]; simp
  have k0 := B1.cell 0 rfl
  have k1 := B2.cell 0 rfl
  have k2 := B3.cell 0 rfl
  have k3 := B3.cell 1 rfl
  have k4 := B4.cell 0 rfl
  have z2 := B3.fz 0 rfl
  have z3 := B3.fz 1 rfl
  have z4 := B4.fz 0 rfl
  simp only [World.size_alloc] at k1 k2 k3 k4 z2 z3 z4
  have HB4 := hid B1.below
  have hWK := hwork.below B1.below
  have HSV : Hid (SurvAt (W4.alloc (.cells #[.pointer (some ⟨b, 0, none⟩)] 112)) b W4.heap.size bm r cc p n c l sm q m d cs po no co outl 0) := by
    have hb4 : Below W4.heap.size W4 (W4.alloc (.cells #[.pointer (some ⟨b, 0, none⟩)] 112)) := (Below.refl _ _).alloc (Nat.le_refl _) _
    have hb5 := B1.below.trans (hb4.mono (by omega))
    exact ⟨hwork.below hb5, cell_box W4 _ 112 0 _ rfl, hl.below hb5, hcs.below hb5, ho.below hb5, _, hmap.below hb5, fun a b v h => by cases h⟩
  clear hwork hl hcs ho hmap hs hof B1 B2 B3 B4
  have HK0 := hid k0
  have HK1 := hid k1
  have HK2 := hid k2
  have HK3 := hid k3
  have HK4 := hid k4
  have HZ2 := hid z2
  have HZ3 := hid z3
  have HZ4 := hid z4
  have HS4 := hid hsz4
  clear hsz4 k0 k1 k2 k3 k4 z2 z3 z4
  refine callsIn_of_wp_marks Try.func82 rfl trivial ?_ rfl
  simp only [Try.ntmps82, List.size_toArray, List.length_cons, List.length_nil, Nat.reduceAdd, Nat.reduceSub, Array.replicate_succ, Array.replicate_zero, List.push_toArray, List.append_toArray, List.nil_append, List.cons_append]
  have k1 := HK1.out
  gi_wp2
  refine ⟨trivial, ?_⟩
  gi_at_call 73
  refine ((callsIn_wide (n := 8)).2 (truthsF_any _ _)).mono ?_
  rintro e w5 ⟨rfl, rfl⟩
  gi_wp2
  obtain ⟨w5, hw5⟩ : ∃ w5, W4.alloc (.cells #[.pointer (some ⟨b, 0, none⟩)] 112) = w5 := ⟨_, rfl⟩
  rw [hw5]
  rw [hw5] at HSV
  have hb5 : Below W4.heap.size W4 w5 := by rw [← hw5]; exact (Below.refl _ _).alloc (Nat.le_refl _) _
  have hsz5 : w5.heap.size = w.heap.size + 5 := by rw [← hw5, World.size_alloc, HS4.out]
  have hsz4 := HS4.out
  refine wpIn_rangeFunc_near rfl (by omega) (gf := 95) (lb := #[.pointer (some ⟨W4.heap.size, 0, none⟩)]) rfl trivial (enters_of Try.func95 (by kernel_rfl) rfl)
    (truths_gives _ _ _ _ _ _ _ _ _ _ _ _ _ _ _ _ _ _ HL.out.1 hn (by omega) (by omega) HS.out hc1 hc4 hs0 hs9 _ _ HSV.out) (Below.refl _ _)
    (fun k hk => by rcases rd_out HL.out HCS.out HO.out hk with h | h | h | h <;> omega) (fun k hk => by omega)
    (fun k => k = w.heap.size + 2 ∨ k = w.heap.size + 3) (fun k hk => ⟨by omega, fun hr => by rcases rd_out HL.out HCS.out HO.out hr with h | h | h | h <;> omega⟩)
    (fun pre W => Near (fun k => k = bm) w W ∧ BInv w 74 #[] b (rngP F pre) W)
    (fun pre W => False)
    (fun pre W1 W2 h hn => ⟨h.1.trans' hn (fun i hi hT => by omega), h.2.near hn (fun k h1 h2 => by omega)⟩)
    (fun pre W1 W2 h hn => h) ?h0 ?round ?done ?stop
  case h0 =>
    refine ⟨Near.of_below (HB4.out.trans (hb5.mono (by omega))) (fun k h1 h2 => by omega), ?_⟩
    have : BInv w 74 #[] b (rngP F []) W4 := ⟨HK0.out, HK1.out, HK2.out, HK3.out, HK4.out, HZ2.out, HZ3.out, HZ4.out⟩
    exact this.near (S := fun k => False) (Near.of_below hb5 (fun k h1 h2 => by omega)) (fun _ _ _ h => h)
  case round =>
    rintro pre x rest W hall hsz ⟨hnW, hI⟩
    have HNW := hid hnW
    obtain ⟨⟨lo, hi, is⟩, hst⟩ : ∃ st, rngP F pre = st := ⟨_, rfl⟩
    rw [hst] at hI
    have HST := hid hst
    clear hst
    have HI := hid hI
    have HSZ := hid hsz
    have HALL := hid hall
    have hs5 : Hid (w5.heap.size = w.heap.size + 5) := hsz5
    clear hb5 hsz5 hsz4 hnW hI hsz hall k1 hw5 hW4
    unfold hitsV
    gi_wp2
    refine ⟨(Near.refl _ _).alloc _, fun W2 hn2 => ?_⟩
    have hn3 : Near (fun k => k = w5.heap.size + 1) W W2 := ((Near.refl _ _).alloc _).trans hn2
    have HN : Hid (Near (fun k => k = bm) w W2) := HNW.out.trans' hn3 (fun i hi hT => by have := hs5.out; omega)
    have HI2 : Hid (BInv w 74 #[] b (lo, hi, is) W2) := HI.out.near hn3 (fun k h1 h2 => by have := hs5.out; omega)
    have HX : Hid (HitsAt W2 W.heap.size x) := (hitsAt_box W x 116).near hn2 (by have := HSZ.out; omega)
    have HWK : Hid (WorkAt W2 b r cc p n c sm q m d po no co bm) := HW.out.kept (HN.out.block _ hbl HBNE.out)
    have HCALL := hid (fun V (hV : Below W2.heap.size W2 V) => HOF.out V (HN.out.trans' (Near.of_below (S := fun k => W2.heap.size ≤ k) hV (fun k _ h => h)) (fun i hi hT => by have := HN.out.size; omega)) x (by rw [HALL.out]; simp))
    unfold hitsV at HCALL
    clear HI HNW hn2 hn3
    gi_wp2
    refine wpIn_region_held_round (S := fun V => Below W2.heap.size W2 V) (by kernel_rfl) (by kernel_rfl) (fun ⟨_, _, h⟩ => h) (Below.refl _ _).drew (fun hS0 => ?_)
    simp only [List.size_toArray, List.length_cons, List.length_nil, Nat.reduceAdd, Array.replicate_succ, Array.replicate_zero, List.push_toArray, List.nil_append, List.cons_append]
    have HV : Hid (∀ V, Below W2.heap.size W2 V → V.cell? ⟨w.heap.size, 0, none⟩ = some (.func (.func 74) #[] #[]) ∧ V.cell? ⟨w.heap.size + 1, 0, none⟩ = some (.pointer (some ⟨b, 0, none⟩)) ∧ V.cell? ⟨b, 0, none⟩ = some (.int .i64 r) ∧ V.cell? ⟨b, 1, none⟩ = some (.int .i64 cc) ∧ V.cell? ⟨b, 2, none⟩ = some (.slice p n c) ∧
        V.cell? ⟨W.heap.size, 0, none⟩ = some (.int .i64 (x[0]?.getD 0)) ∧ V.cell? ⟨W.heap.size, 1, none⟩ = some (.int .i64 (x[1]?.getD 0)) ∧ V.cell? ⟨W.heap.size, 2, none⟩ = some (.int .i64 (x[2]?.getD 0)) ∧ V.cell? ⟨W.heap.size, 3, none⟩ = some (.int .i64 (x[3]?.getD 0)) ∧ V.cell? ⟨W.heap.size, 4, none⟩ = some (.int .i64 (x[4]?.getD 0)) ∧
        V.cell? ⟨W.heap.size, 5, none⟩ = some (.int .i64 (x[5]?.getD 0)) ∧ V.cell? ⟨W.heap.size, 6, none⟩ = some (.int .i64 (x[6]?.getD 0)) ∧ V.cell? ⟨W.heap.size, 7, none⟩ = some (.int .i64 (x[7]?.getD 0)) ∧ V.cell? ⟨W.heap.size, 8, none⟩ = some (.int .i64 (x[8]?.getD 0))) := by
      intro V hV
      have kk : ∀ (p : Addr) (v : Value), W2.cell? p = some v → V.cell? p = some v := fun p v h => (hV.cell (World.block_lt_of_cell? _ _ h)).trans h
      exact ⟨kk _ _ HI2.out.k0, kk _ _ HI2.out.k1, kk _ _ HWK.out.c0, kk _ _ HWK.out.c1, kk _ _ HWK.out.c2, kk _ _ (HX.out 0 (by omega)), kk _ _ (HX.out 1 (by omega)), kk _ _ (HX.out 2 (by omega)), kk _ _ (HX.out 3 (by omega)), kk _ _ (HX.out 4 (by omega)), kk _ _ (HX.out 5 (by omega)), kk _ _ (HX.out 6 (by omega)), kk _ _ (HX.out 7 (by omega)), kk _ _ (HX.out 8 (by omega))⟩
    refine wpAnyH_take (i := 0) (v := ?_) rfl (by kernel_rfl) (by kernel_rfl) (by kernel_rfl) (fun _ _ _ h => h) (Or.inl ⟨by rfl, fun V hV => ?_⟩) (by assumption) ?_
    rotate_left
    · have ⟨v0, v1, v2, v3, v4, x0, x1, x2, x3, x4, x5, x6, x7, x8⟩ := HV.out V hV
      go_simp
      try with_reducible rfl
    try simp only [Act.put, List.getElem_toArray, List.getElem_cons_zero, List.setIfInBounds_toArray, List.set_cons_zero, List.set_cons_succ]
    refine wpAnyH_take (i := 1) (v := ?_) rfl (by kernel_rfl) (by kernel_rfl) (by kernel_rfl) (fun _ _ _ h => h) (Or.inl ⟨by rfl, fun V hV => ?_⟩) (by assumption) ?_
    rotate_left
    · have ⟨v0, v1, v2, v3, v4, x0, x1, x2, x3, x4, x5, x6, x7, x8⟩ := HV.out V hV
      go_simp
      try with_reducible rfl
    try simp only [Act.put, List.getElem_toArray, List.getElem_cons_zero, List.getElem_cons_succ, List.setIfInBounds_toArray, List.set_cons_zero, List.set_cons_succ]
    refine wpAnyH_take (i := 2) (v := ?_) rfl (by kernel_rfl) (by kernel_rfl) (by kernel_rfl) (fun _ _ _ h => h) (Or.inl ⟨by rfl, fun V hV => ?_⟩) (by assumption) ?_
    rotate_left
    · have ⟨v0, v1, v2, v3, v4, x0, x1, x2, x3, x4, x5, x6, x7, x8⟩ := HV.out V hV
      go_simp
      try with_reducible rfl
    try simp only [Act.put, List.getElem_toArray, List.getElem_cons_zero, List.getElem_cons_succ, List.setIfInBounds_toArray, List.set_cons_zero, List.set_cons_succ]
    refine wpAnyH_take (i := 3) (v := ?_) rfl (by kernel_rfl) (by kernel_rfl) (by kernel_rfl) (fun _ _ _ h => h) (Or.inl ⟨by rfl, fun V hV => ?_⟩) (by assumption) ?_
    rotate_left
    · have ⟨v0, v1, v2, v3, v4, x0, x1, x2, x3, x4, x5, x6, x7, x8⟩ := HV.out V hV
      go_simp
      try with_reducible rfl
    try simp only [Act.put, List.getElem_toArray, List.getElem_cons_zero, List.getElem_cons_succ, List.setIfInBounds_toArray, List.set_cons_zero, List.set_cons_succ]
    refine wpAnyH_take (i := 4) (v := ?_) rfl (by kernel_rfl) (by kernel_rfl) (by kernel_rfl) (fun _ _ _ h => h) (Or.inl ⟨by rfl, fun V hV => ?_⟩) (by assumption) ?_
    rotate_left
    · have ⟨v0, v1, v2, v3, v4, x0, x1, x2, x3, x4, x5, x6, x7, x8⟩ := HV.out V hV
      go_simp
      try with_reducible rfl
    try simp only [Act.put, List.getElem_toArray, List.getElem_cons_zero, List.getElem_cons_succ, List.setIfInBounds_toArray, List.set_cons_zero, List.set_cons_succ]
    refine wpAnyH_take (i := 5) (v := ?_) rfl (by kernel_rfl) (by kernel_rfl) (by kernel_rfl) (fun _ _ _ h => h) (Or.inl ⟨by rfl, fun V hV => ?_⟩) (by assumption) ?_
    rotate_left
    · have ⟨v0, v1, v2, v3, v4, x0, x1, x2, x3, x4, x5, x6, x7, x8⟩ := HV.out V hV
      go_simp
      try with_reducible rfl
    try simp only [Act.put, List.getElem_toArray, List.getElem_cons_zero, List.getElem_cons_succ, List.setIfInBounds_toArray, List.set_cons_zero, List.set_cons_succ]
    refine wpAnyH_take (i := 6) (v := ?_) rfl (by kernel_rfl) (by kernel_rfl) (by kernel_rfl) (fun _ _ _ h => h) (Or.inl ⟨by rfl, fun V hV => ?_⟩) (by assumption) ?_
    rotate_left
    · have ⟨v0, v1, v2, v3, v4, x0, x1, x2, x3, x4, x5, x6, x7, x8⟩ := HV.out V hV
      go_simp
      try with_reducible rfl
    try simp only [Act.put, List.getElem_toArray, List.getElem_cons_zero, List.getElem_cons_succ, List.setIfInBounds_toArray, List.set_cons_zero, List.set_cons_succ]
    refine wpAnyH_take (i := 7) (v := ?_) rfl (by kernel_rfl) (by kernel_rfl) (by kernel_rfl) (fun _ _ _ h => h) (Or.inl ⟨by rfl, fun V hV => ?_⟩) (by assumption) ?_
    rotate_left
    · have ⟨v0, v1, v2, v3, v4, x0, x1, x2, x3, x4, x5, x6, x7, x8⟩ := HV.out V hV
      go_simp
      try with_reducible rfl
    try simp only [Act.put, List.getElem_toArray, List.getElem_cons_zero, List.getElem_cons_succ, List.setIfInBounds_toArray, List.set_cons_zero, List.set_cons_succ]
    refine wpAnyH_ready (rs := [8]) (by kernel_rfl) (by simp) ?_
    refine AllReadyH.cons (o := _) rfl (fun K hK => ?_) AllReadyH.nil
    go_simp
    refine (HCALL.out _ hS0).mono ?_
    rintro e W3 ⟨rfl, hb3⟩
    have hS1 : Below W2.heap.size W2 W3 := hS0.trans (hb3.mono hS0.size)
    refine hK.out _ _ hS1 (fun _ => ?_)
    clear hK K hb3
    try simp only [List.setIfInBounds_toArray, List.set_cons_zero, List.set_cons_succ]
    refine wpAnyH_take (i := 9) (v := ?_) rfl (by kernel_rfl) (by kernel_rfl) (by kernel_rfl) (fun _ _ _ h => h) (Or.inl ⟨by rfl, fun V hV => ?_⟩) (by assumption) ?_
    rotate_left
    · have ⟨v0, v1, v2, v3, v4, x0, x1, x2, x3, x4, x5, x6, x7, x8⟩ := HV.out V hV
      go_simp
      try with_reducible rfl
    try simp only [Act.put, List.getElem_toArray, List.getElem_cons_zero, List.getElem_cons_succ, List.setIfInBounds_toArray, List.set_cons_zero, List.set_cons_succ]
    refine wpAnyH_done (by kernel_rfl) ?_ _
    have HI3 : Hid (BInv w 74 #[] b (lo, hi, is) W3) := HI2.out.near (S := fun k => False) (Near.of_below hS1 (fun k h1 h2 => by omega)) (fun _ _ _ h => h)
    have HN3 : Hid (Near (fun k => k = bm) w W3) := HN.out.trans' (Near.of_below (S := fun k => W2.heap.size ≤ k) hS1 (fun k _ h => h)) (fun i hi hT => by have := HN.out.size; omega)
    have HB3 : Hid (Near (fun k => k = w.heap.size + 2 ∨ k = w.heap.size + 3) W2 W3) := Near.of_below hS1 (fun k h1 h2 => by omega)
    clear HV HX HI2 HWK HCALL hS1 hS0
    have d4 := HI3.out.k4
    have d2 := HI3.out.k2
    have d3 := HI3.out.k3
    have z2 := HI3.out.z2
    have z3 := HI3.out.z3
    have z4 := HI3.out.z4
    cases is
    · obtain ⟨W6, hW6⟩ : ∃ W6, ((W3.setCell ⟨w.heap.size + 1 + 1, 0, none⟩ (.int .i64 (F x))).setCell ⟨w.heap.size + 1 + 1, 1, none⟩ (.int .i64 (F x))).setCell ⟨w.heap.size + 1 + 1 + 1, 0, none⟩ (.bool true) = W6 := ⟨_, rfl⟩
      have HI6 : Hid (BInv w 74 #[] b (F x, F x, true) W6) := by rw [← hW6]; exact (HI3.out.set (F x) (F x)).flag true
      have HN6 : Hid (Near (fun k => k = bm) w W6) := by rw [← hW6]; exact ((HN3.out.setCell (p := ⟨w.heap.size + 1 + 1, 0, none⟩) (fun h => by simp at h <;> omega) _).setCell (p := ⟨w.heap.size + 1 + 1, 1, none⟩) (fun h => by simp at h <;> omega) _).setCell (p := ⟨w.heap.size + 1 + 1 + 1, 0, none⟩) (fun h => by simp at h <;> omega) _
      have HC6 : Hid (Near (fun k => k = w.heap.size + 2 ∨ k = w.heap.size + 3) W2 W6) := by rw [← hW6]; exact ((HB3.out.setCell (p := ⟨w.heap.size + 1 + 1, 0, none⟩) (fun _ => .inl rfl) _).setCell (p := ⟨w.heap.size + 1 + 1, 1, none⟩) (fun _ => .inl rfl) _).setCell (p := ⟨w.heap.size + 1 + 1 + 1, 0, none⟩) (fun _ => .inr rfl) _
      clear HI3 HN3 HB3
      gi_wp2
      obtain ⟨W7, hW7⟩ : ∃ W7, (W6.alloc (.cells #[.int .i64 (F x), .int .i64 (F x)] 3)).drew = W7 := ⟨_, rfl⟩
      have hb7 : Below W6.heap.size W6 W7 := by rw [← hW7]; exact ((Below.refl _ _).alloc (Nat.le_refl _) _).drew
      have HI7 : Hid (BInv w 74 #[] b (F x, F x, true) W7) := HI6.out.near (S := fun k => False) (Near.of_below hb7 (fun k h1 h2 => by omega)) (fun _ _ _ h => h)
      have HN7 : Hid (Near (fun k => k = bm) w W7) := HN6.out.trans' (Near.of_below (S := fun k => W6.heap.size ≤ k) hb7 (fun k _ h => h)) (fun i hi hT => by have := HN6.out.size; omega)
      have HC7 : Hid (Near (fun k => k = w.heap.size + 2 ∨ k = w.heap.size + 3) W2 W7) := HC6.out.trans' (Near.of_below (S := fun k => W6.heap.size ≤ k) hb7 (fun k _ h => h)) (fun i hi hT => by have := HC6.out.size; omega)
      have e0 : W7.cell? ⟨W6.heap.size, 0, none⟩ = some (.int .i64 (F x)) := by rw [← hW7]; exact cell_box W6 _ 3 0 _ rfl
      have e1 : W7.cell? ⟨W6.heap.size, 1, none⟩ = some (.int .i64 (F x)) := by rw [← hW7]; exact cell_box W6 _ 3 1 _ rfl
      clear d2 d3 d4 z2 z3 z4 hb7
      have d2 := HI6.out.k2
      have d3 := HI6.out.k3
      have f2 := HI7.out.k2
      have f3 := HI7.out.k3
      have z2 := HI7.out.z2
      have z3 := HI7.out.z3
      refine wpIn_region_held_round (S := fun V => True) (by kernel_rfl) (by kernel_rfl) (fun ⟨_, _, h⟩ => h) trivial (fun _ => ?_)
      simp only [List.size_toArray, List.length_cons, List.length_nil, Nat.reduceAdd, Array.replicate_succ, Array.replicate_zero, List.push_toArray, List.nil_append, List.cons_append]
      have HR : Hid ((minI (F x) (F x), F x, true) = rngP F (pre ++ [x])) := by show _ = _; rw [rngP_snoc, HST.out]; simp [rngS]
      refine wpAnyH_take (i := 0) (v := ?_) rfl (by kernel_rfl) (by kernel_rfl) (by kernel_rfl) (fun _ _ _ h => h) (Or.inl ⟨by rfl, fun V hV => ?_⟩) trivial ?_
      rotate_left
      · go_simp
        try with_reducible rfl
      try simp only [Act.put, List.getElem_toArray, List.getElem_cons_zero, List.setIfInBounds_toArray, List.set_cons_zero, List.set_cons_succ]
      refine wpAnyH_take (i := 2) (v := ?_) rfl (by kernel_rfl) (by kernel_rfl) (by kernel_rfl) (fun _ _ _ h => h) (Or.inl ⟨by rfl, fun V hV => ?_⟩) trivial ?_
      rotate_left
      · go_simp
        try with_reducible rfl
      try simp only [Act.put, List.getElem_toArray, List.getElem_cons_zero, List.getElem_cons_succ, List.setIfInBounds_toArray, List.set_cons_zero, List.set_cons_succ]
      refine wpAnyH_take (i := 5) (v := ?_) rfl (by kernel_rfl) (by kernel_rfl) (by kernel_rfl) (fun _ _ _ h => h) (Or.inl ⟨by rfl, fun V hV => ?_⟩) trivial ?_
      rotate_left
      · go_simp
        try with_reducible rfl
      try simp only [Act.put, List.getElem_toArray, List.getElem_cons_zero, List.getElem_cons_succ, List.setIfInBounds_toArray, List.set_cons_zero, List.set_cons_succ]
      refine wpAnyH_take (i := 7) (v := ?_) rfl (by kernel_rfl) (by kernel_rfl) (by kernel_rfl) (fun _ _ _ h => h) (Or.inl ⟨by rfl, fun V hV => ?_⟩) trivial ?_
      rotate_left
      · go_simp
        try with_reducible rfl
      try simp only [Act.put, List.getElem_toArray, List.getElem_cons_zero, List.getElem_cons_succ, List.setIfInBounds_toArray, List.set_cons_zero, List.set_cons_succ]
      refine wpAnyH_ready (rs := [1, 6]) (by kernel_rfl) (by simp) ?_
      refine AllReadyH.cons (o := _) rfl (fun K hK => ?_) ?_
      · skip
        go_simp
        refine hK.out _ _ trivial (fun _ => ?_)
        clear hK K
        try simp only [List.setIfInBounds_toArray, List.set_cons_zero, List.set_cons_succ]
        refine wpAnyH_ready (rs := [3, 6]) (by kernel_rfl) (by simp) ?_
        refine AllReadyH.cons (o := _) rfl (fun K hK => ?_) ?_
        · skip
          go_simp
          refine hK.out _ _ trivial (fun _ => ?_)
          clear hK K
          try simp only [List.setIfInBounds_toArray, List.set_cons_zero, List.set_cons_succ]
          refine wpAnyH_ready (rs := [4, 6]) (by kernel_rfl) (by simp) ?_
          refine AllReadyH.cons (o := _) rfl (fun K hK => ?_) ?_
          · skip
            go_simp
            refine (min2_any _ _ _ _ e0 e1).mono ?_
            rintro e W' ⟨rfl, rfl⟩
            go_wp2_with fail
            refine hK.out _ _ trivial (fun _ => ?_)
            clear hK K
            try simp only [List.setIfInBounds_toArray, List.set_cons_zero, List.set_cons_succ]
            refine wpAnyH_ready (rs := [6]) (by kernel_rfl) (by simp) ?_
            refine AllReadyH.cons (o := _) rfl (fun K hK => ?_) AllReadyH.nil
            go_simp
            refine hK.out _ _ trivial (fun _ => ?_)
            clear hK K
            try simp only [List.setIfInBounds_toArray, List.set_cons_zero, List.set_cons_succ]
            refine wpAnyH_take (i := 8) (v := ?_) rfl (by kernel_rfl) (by kernel_rfl) (by kernel_rfl) (fun _ _ _ h => h) (Or.inl ⟨by rfl, fun V hV => ?_⟩) trivial ?_
            rotate_left
            · go_simp
              try with_reducible rfl
            try simp only [Act.put, List.getElem_toArray, List.getElem_cons_zero, List.getElem_cons_succ, List.setIfInBounds_toArray, List.set_cons_zero, List.set_cons_succ]
            refine wpAnyH_take (i := 9) (v := ?_) rfl (by kernel_rfl) (by kernel_rfl) (by kernel_rfl) (fun _ _ _ h => h) (Or.inl ⟨by rfl, fun V hV => ?_⟩) trivial ?_
            rotate_left
            · go_simp
              try with_reducible rfl
            try simp only [Act.put, List.getElem_toArray, List.getElem_cons_zero, List.getElem_cons_succ, List.setIfInBounds_toArray, List.set_cons_zero, List.set_cons_succ]
            refine wpAnyH_ready (rs := [10]) (by kernel_rfl) (by simp) ?_
            refine AllReadyH.cons (o := _) rfl (fun K hK => ?_) AllReadyH.nil
            go_simp
            refine hK.out _ _ trivial (fun _ => ?_)
            clear hK K
            try simp only [List.setIfInBounds_toArray, List.set_cons_zero, List.set_cons_succ]
            refine wpAnyH_done (by kernel_rfl) ?_ _; exact ⟨(HC7.out.setCell (p := ⟨w.heap.size + 1 + 1, 0, none⟩) (fun _ => .inl rfl) _).setCell (p := ⟨w.heap.size + 1 + 1, 1, none⟩) (fun _ => .inl rfl) _, (HN7.out.setCell (p := ⟨w.heap.size + 1 + 1, 0, none⟩) (fun h => by simp at h <;> omega) _).setCell (p := ⟨w.heap.size + 1 + 1, 1, none⟩) (fun h => by simp at h <;> omega) _, HR.out ▸ HI7.out.set _ _⟩
          refine AllReadyH.cons (o := _) rfl (fun K hK => ?_) AllReadyH.nil
          go_simp
          refine hK.out _ _ trivial (fun _ => ?_)
          clear hK K
          try simp only [List.setIfInBounds_toArray, List.set_cons_zero, List.set_cons_succ]
          refine wpAnyH_take (i := 8) (v := ?_) rfl (by kernel_rfl) (by kernel_rfl) (by kernel_rfl) (fun _ _ _ h => h) (Or.inl ⟨by rfl, fun V hV => ?_⟩) trivial ?_
          rotate_left
          · go_simp
            try with_reducible rfl
          try simp only [Act.put, List.getElem_toArray, List.getElem_cons_zero, List.getElem_cons_succ, List.setIfInBounds_toArray, List.set_cons_zero, List.set_cons_succ]
          refine wpAnyH_ready (rs := [4]) (by kernel_rfl) (by simp) ?_
          refine AllReadyH.cons (o := _) rfl (fun K hK => ?_) AllReadyH.nil
          go_simp
          refine (min2_any _ _ _ _ e0 e1).mono ?_
          rintro e W' ⟨rfl, rfl⟩
          go_wp2_with fail
          refine hK.out _ _ trivial (fun _ => ?_)
          clear hK K
          try simp only [List.setIfInBounds_toArray, List.set_cons_zero, List.set_cons_succ]
          refine wpAnyH_take (i := 9) (v := ?_) rfl (by kernel_rfl) (by kernel_rfl) (by kernel_rfl) (fun _ _ _ h => h) (Or.inl ⟨by rfl, fun V hV => ?_⟩) trivial ?_
          rotate_left
          · go_simp
            try with_reducible rfl
          try simp only [Act.put, List.getElem_toArray, List.getElem_cons_zero, List.getElem_cons_succ, List.setIfInBounds_toArray, List.set_cons_zero, List.set_cons_succ]
          refine wpAnyH_ready (rs := [10]) (by kernel_rfl) (by simp) ?_
          refine AllReadyH.cons (o := _) rfl (fun K hK => ?_) AllReadyH.nil
          go_simp
          refine hK.out _ _ trivial (fun _ => ?_)
          clear hK K
          try simp only [List.setIfInBounds_toArray, List.set_cons_zero, List.set_cons_succ]
          refine wpAnyH_done (by kernel_rfl) ?_ _; exact ⟨(HC7.out.setCell (p := ⟨w.heap.size + 1 + 1, 0, none⟩) (fun _ => .inl rfl) _).setCell (p := ⟨w.heap.size + 1 + 1, 1, none⟩) (fun _ => .inl rfl) _, (HN7.out.setCell (p := ⟨w.heap.size + 1 + 1, 0, none⟩) (fun h => by simp at h <;> omega) _).setCell (p := ⟨w.heap.size + 1 + 1, 1, none⟩) (fun h => by simp at h <;> omega) _, HR.out ▸ HI7.out.set _ _⟩
        refine AllReadyH.cons (o := _) rfl (fun K hK => ?_) AllReadyH.nil
        go_simp
        refine hK.out _ _ trivial (fun _ => ?_)
        clear hK K
        try simp only [List.setIfInBounds_toArray, List.set_cons_zero, List.set_cons_succ]
        refine wpAnyH_take (i := 8) (v := ?_) rfl (by kernel_rfl) (by kernel_rfl) (by kernel_rfl) (fun _ _ _ h => h) (Or.inl ⟨by rfl, fun V hV => ?_⟩) trivial ?_
        rotate_left
        · go_simp
          try with_reducible rfl
        try simp only [Act.put, List.getElem_toArray, List.getElem_cons_zero, List.getElem_cons_succ, List.setIfInBounds_toArray, List.set_cons_zero, List.set_cons_succ]
        refine wpAnyH_ready (rs := [3]) (by kernel_rfl) (by simp) ?_
        refine AllReadyH.cons (o := _) rfl (fun K hK => ?_) AllReadyH.nil
        go_simp
        refine hK.out _ _ trivial (fun _ => ?_)
        clear hK K
        try simp only [List.setIfInBounds_toArray, List.set_cons_zero, List.set_cons_succ]
        refine wpAnyH_ready (rs := [4]) (by kernel_rfl) (by simp) ?_
        refine AllReadyH.cons (o := _) rfl (fun K hK => ?_) AllReadyH.nil
        go_simp
        refine (min2_any _ _ _ _ e0 e1).mono ?_
        rintro e W' ⟨rfl, rfl⟩
        go_wp2_with fail
        refine hK.out _ _ trivial (fun _ => ?_)
        clear hK K
        try simp only [List.setIfInBounds_toArray, List.set_cons_zero, List.set_cons_succ]
        refine wpAnyH_take (i := 9) (v := ?_) rfl (by kernel_rfl) (by kernel_rfl) (by kernel_rfl) (fun _ _ _ h => h) (Or.inl ⟨by rfl, fun V hV => ?_⟩) trivial ?_
        rotate_left
        · go_simp
          try with_reducible rfl
        try simp only [Act.put, List.getElem_toArray, List.getElem_cons_zero, List.getElem_cons_succ, List.setIfInBounds_toArray, List.set_cons_zero, List.set_cons_succ]
        refine wpAnyH_ready (rs := [10]) (by kernel_rfl) (by simp) ?_
        refine AllReadyH.cons (o := _) rfl (fun K hK => ?_) AllReadyH.nil
        go_simp
        refine hK.out _ _ trivial (fun _ => ?_)
        clear hK K
        try simp only [List.setIfInBounds_toArray, List.set_cons_zero, List.set_cons_succ]
        refine wpAnyH_done (by kernel_rfl) ?_ _; exact ⟨(HC7.out.setCell (p := ⟨w.heap.size + 1 + 1, 0, none⟩) (fun _ => .inl rfl) _).setCell (p := ⟨w.heap.size + 1 + 1, 1, none⟩) (fun _ => .inl rfl) _, (HN7.out.setCell (p := ⟨w.heap.size + 1 + 1, 0, none⟩) (fun h => by simp at h <;> omega) _).setCell (p := ⟨w.heap.size + 1 + 1, 1, none⟩) (fun h => by simp at h <;> omega) _, HR.out ▸ HI7.out.set _ _⟩
      refine AllReadyH.cons (o := _) rfl (fun K hK => ?_) AllReadyH.nil
      go_simp
      refine hK.out _ _ trivial (fun _ => ?_)
      clear hK K
      try simp only [List.setIfInBounds_toArray, List.set_cons_zero, List.set_cons_succ]
      refine wpAnyH_take (i := 8) (v := ?_) rfl (by kernel_rfl) (by kernel_rfl) (by kernel_rfl) (fun _ _ _ h => h) (Or.inl ⟨by rfl, fun V hV => ?_⟩) trivial ?_
      rotate_left
      · go_simp
        try with_reducible rfl
      try simp only [Act.put, List.getElem_toArray, List.getElem_cons_zero, List.getElem_cons_succ, List.setIfInBounds_toArray, List.set_cons_zero, List.set_cons_succ]
      refine wpAnyH_ready (rs := [1]) (by kernel_rfl) (by simp) ?_
      refine AllReadyH.cons (o := _) rfl (fun K hK => ?_) AllReadyH.nil
      go_simp
      refine hK.out _ _ trivial (fun _ => ?_)
      clear hK K
      try simp only [List.setIfInBounds_toArray, List.set_cons_zero, List.set_cons_succ]
      refine wpAnyH_ready (rs := [3]) (by kernel_rfl) (by simp) ?_
      refine AllReadyH.cons (o := _) rfl (fun K hK => ?_) AllReadyH.nil
      go_simp
      refine hK.out _ _ trivial (fun _ => ?_)
      clear hK K
      try simp only [List.setIfInBounds_toArray, List.set_cons_zero, List.set_cons_succ]
      refine wpAnyH_ready (rs := [4]) (by kernel_rfl) (by simp) ?_
      refine AllReadyH.cons (o := _) rfl (fun K hK => ?_) AllReadyH.nil
      go_simp
      refine (min2_any _ _ _ _ e0 e1).mono ?_
      rintro e W' ⟨rfl, rfl⟩
      go_wp2_with fail
      refine hK.out _ _ trivial (fun _ => ?_)
      clear hK K
      try simp only [List.setIfInBounds_toArray, List.set_cons_zero, List.set_cons_succ]
      refine wpAnyH_take (i := 9) (v := ?_) rfl (by kernel_rfl) (by kernel_rfl) (by kernel_rfl) (fun _ _ _ h => h) (Or.inl ⟨by rfl, fun V hV => ?_⟩) trivial ?_
      rotate_left
      · go_simp
        try with_reducible rfl
      try simp only [Act.put, List.getElem_toArray, List.getElem_cons_zero, List.getElem_cons_succ, List.setIfInBounds_toArray, List.set_cons_zero, List.set_cons_succ]
      refine wpAnyH_ready (rs := [10]) (by kernel_rfl) (by simp) ?_
      refine AllReadyH.cons (o := _) rfl (fun K hK => ?_) AllReadyH.nil
      go_simp
      refine hK.out _ _ trivial (fun _ => ?_)
      clear hK K
      try simp only [List.setIfInBounds_toArray, List.set_cons_zero, List.set_cons_succ]
      refine wpAnyH_done (by kernel_rfl) ?_ _; exact ⟨(HC7.out.setCell (p := ⟨w.heap.size + 1 + 1, 0, none⟩) (fun _ => .inl rfl) _).setCell (p := ⟨w.heap.size + 1 + 1, 1, none⟩) (fun _ => .inl rfl) _, (HN7.out.setCell (p := ⟨w.heap.size + 1 + 1, 0, none⟩) (fun h => by simp at h <;> omega) _).setCell (p := ⟨w.heap.size + 1 + 1, 1, none⟩) (fun h => by simp at h <;> omega) _, HR.out ▸ HI7.out.set _ _⟩
    · have HI6 : Hid (BInv w 74 #[] b (lo, hi, true) W3) := HI3.out
      have HN6 := HN3
      have HC6 := HB3
      clear HI3 HN3 HB3
      gi_wp2
      obtain ⟨W7, hW7⟩ : ∃ W7, (W3.alloc (.cells #[.int .i64 (lo), .int .i64 (F x)] 3)).drew = W7 := ⟨_, rfl⟩
      have hb7 : Below W3.heap.size W3 W7 := by rw [← hW7]; exact ((Below.refl _ _).alloc (Nat.le_refl _) _).drew
      have HI7 : Hid (BInv w 74 #[] b (lo, hi, true) W7) := HI6.out.near (S := fun k => False) (Near.of_below hb7 (fun k h1 h2 => by omega)) (fun _ _ _ h => h)
      have HN7 : Hid (Near (fun k => k = bm) w W7) := HN6.out.trans' (Near.of_below (S := fun k => W3.heap.size ≤ k) hb7 (fun k _ h => h)) (fun i hi hT => by have := HN6.out.size; omega)
      have HC7 : Hid (Near (fun k => k = w.heap.size + 2 ∨ k = w.heap.size + 3) W2 W7) := HC6.out.trans' (Near.of_below (S := fun k => W3.heap.size ≤ k) hb7 (fun k _ h => h)) (fun i hi hT => by have := HC6.out.size; omega)
      have e0 : W7.cell? ⟨W3.heap.size, 0, none⟩ = some (.int .i64 (lo)) := by rw [← hW7]; exact cell_box W3 _ 3 0 _ rfl
      have e1 : W7.cell? ⟨W3.heap.size, 1, none⟩ = some (.int .i64 (F x)) := by rw [← hW7]; exact cell_box W3 _ 3 1 _ rfl
      clear d2 d3 d4 z2 z3 z4 hb7
      have d2 := HI6.out.k2
      have d3 := HI6.out.k3
      have f2 := HI7.out.k2
      have f3 := HI7.out.k3
      have z2 := HI7.out.z2
      have z3 := HI7.out.z3
      refine wpIn_region_held_round (S := fun V => True) (by kernel_rfl) (by kernel_rfl) (fun ⟨_, _, h⟩ => h) trivial (fun _ => ?_)
      simp only [List.size_toArray, List.length_cons, List.length_nil, Nat.reduceAdd, Array.replicate_succ, Array.replicate_zero, List.push_toArray, List.nil_append, List.cons_append]
      by_cases hmx : hi < F x
      · skip
        have HR : Hid ((minI (lo) (F x), F x, true) = rngP F (pre ++ [x])) := by show _ = _; rw [rngP_snoc, HST.out]; simp [rngS, hmx]
        refine wpAnyH_take (i := 0) (v := ?_) rfl (by kernel_rfl) (by kernel_rfl) (by kernel_rfl) (fun _ _ _ h => h) (Or.inl ⟨by rfl, fun V hV => ?_⟩) trivial ?_
        rotate_left
        · go_simp
          try with_reducible rfl
        try simp only [Act.put, List.getElem_toArray, List.getElem_cons_zero, List.setIfInBounds_toArray, List.set_cons_zero, List.set_cons_succ]
        refine wpAnyH_take (i := 2) (v := ?_) rfl (by kernel_rfl) (by kernel_rfl) (by kernel_rfl) (fun _ _ _ h => h) (Or.inl ⟨by rfl, fun V hV => ?_⟩) trivial ?_
        rotate_left
        · go_simp
          try with_reducible rfl
        try simp only [Act.put, List.getElem_toArray, List.getElem_cons_zero, List.getElem_cons_succ, List.setIfInBounds_toArray, List.set_cons_zero, List.set_cons_succ]
        refine wpAnyH_take (i := 5) (v := ?_) rfl (by kernel_rfl) (by kernel_rfl) (by kernel_rfl) (fun _ _ _ h => h) (Or.inl ⟨by rfl, fun V hV => ?_⟩) trivial ?_
        rotate_left
        · go_simp
          try with_reducible rfl
        try simp only [Act.put, List.getElem_toArray, List.getElem_cons_zero, List.getElem_cons_succ, List.setIfInBounds_toArray, List.set_cons_zero, List.set_cons_succ]
        refine wpAnyH_take (i := 7) (v := ?_) rfl (by kernel_rfl) (by kernel_rfl) (by kernel_rfl) (fun _ _ _ h => h) (Or.inl ⟨by rfl, fun V hV => ?_⟩) trivial ?_
        rotate_left
        · go_simp
          try with_reducible rfl
        try simp only [Act.put, List.getElem_toArray, List.getElem_cons_zero, List.getElem_cons_succ, List.setIfInBounds_toArray, List.set_cons_zero, List.set_cons_succ]
        refine wpAnyH_ready (rs := [1, 6]) (by kernel_rfl) (by simp) ?_
        refine AllReadyH.cons (o := _) rfl (fun K hK => ?_) ?_
        · skip
          go_simp
          refine hK.out _ _ trivial (fun _ => ?_)
          clear hK K
          try simp only [List.setIfInBounds_toArray, List.set_cons_zero, List.set_cons_succ]
          refine wpAnyH_ready (rs := [3, 6]) (by kernel_rfl) (by simp) ?_
          refine AllReadyH.cons (o := _) rfl (fun K hK => ?_) ?_
          · skip
            go_simp
            refine hK.out _ _ trivial (fun _ => ?_)
            clear hK K
            try simp only [List.setIfInBounds_toArray, List.set_cons_zero, List.set_cons_succ]
            refine wpAnyH_ready (rs := [4, 6]) (by kernel_rfl) (by simp) ?_
            refine AllReadyH.cons (o := _) rfl (fun K hK => ?_) ?_
            · skip
              go_simp
              refine (min2_any _ _ _ _ e0 e1).mono ?_
              rintro e W' ⟨rfl, rfl⟩
              go_wp2_with fail
              refine hK.out _ _ trivial (fun _ => ?_)
              clear hK K
              try simp only [List.setIfInBounds_toArray, List.set_cons_zero, List.set_cons_succ]
              refine wpAnyH_ready (rs := [6]) (by kernel_rfl) (by simp) ?_
              refine AllReadyH.cons (o := _) rfl (fun K hK => ?_) AllReadyH.nil
              go_simp
              refine hK.out _ _ trivial (fun _ => ?_)
              clear hK K
              try simp only [List.setIfInBounds_toArray, List.set_cons_zero, List.set_cons_succ]
              refine wpAnyH_take (i := 8) (v := ?_) rfl (by kernel_rfl) (by kernel_rfl) (by kernel_rfl) (fun _ _ _ h => h) (Or.inl ⟨by rfl, fun V hV => ?_⟩) trivial ?_
              rotate_left
              · go_simp
                try with_reducible rfl
              try simp only [Act.put, List.getElem_toArray, List.getElem_cons_zero, List.getElem_cons_succ, List.setIfInBounds_toArray, List.set_cons_zero, List.set_cons_succ]
              refine wpAnyH_take (i := 9) (v := ?_) rfl (by kernel_rfl) (by kernel_rfl) (by kernel_rfl) (fun _ _ _ h => h) (Or.inl ⟨by rfl, fun V hV => ?_⟩) trivial ?_
              rotate_left
              · go_simp
                try with_reducible rfl
              try simp only [Act.put, List.getElem_toArray, List.getElem_cons_zero, List.getElem_cons_succ, List.setIfInBounds_toArray, List.set_cons_zero, List.set_cons_succ]
              refine wpAnyH_ready (rs := [10]) (by kernel_rfl) (by simp) ?_
              refine AllReadyH.cons (o := _) rfl (fun K hK => ?_) AllReadyH.nil
              go_simp
              refine hK.out _ _ trivial (fun _ => ?_)
              clear hK K
              try simp only [List.setIfInBounds_toArray, List.set_cons_zero, List.set_cons_succ]
              refine wpAnyH_done (by kernel_rfl) ?_ _; exact ⟨(HC7.out.setCell (p := ⟨w.heap.size + 1 + 1, 0, none⟩) (fun _ => .inl rfl) _).setCell (p := ⟨w.heap.size + 1 + 1, 1, none⟩) (fun _ => .inl rfl) _, (HN7.out.setCell (p := ⟨w.heap.size + 1 + 1, 0, none⟩) (fun h => by simp at h <;> omega) _).setCell (p := ⟨w.heap.size + 1 + 1, 1, none⟩) (fun h => by simp at h <;> omega) _, HR.out ▸ HI7.out.set _ _⟩
            refine AllReadyH.cons (o := _) rfl (fun K hK => ?_) AllReadyH.nil
            go_simp
            refine hK.out _ _ trivial (fun _ => ?_)
            clear hK K
            try simp only [List.setIfInBounds_toArray, List.set_cons_zero, List.set_cons_succ]
            refine wpAnyH_take (i := 8) (v := ?_) rfl (by kernel_rfl) (by kernel_rfl) (by kernel_rfl) (fun _ _ _ h => h) (Or.inl ⟨by rfl, fun V hV => ?_⟩) trivial ?_
            rotate_left
            · go_simp
              try with_reducible rfl
            try simp only [Act.put, List.getElem_toArray, List.getElem_cons_zero, List.getElem_cons_succ, List.setIfInBounds_toArray, List.set_cons_zero, List.set_cons_succ]
            refine wpAnyH_ready (rs := [4]) (by kernel_rfl) (by simp) ?_
            refine AllReadyH.cons (o := _) rfl (fun K hK => ?_) AllReadyH.nil
            go_simp
            refine (min2_any _ _ _ _ e0 e1).mono ?_
            rintro e W' ⟨rfl, rfl⟩
            go_wp2_with fail
            refine hK.out _ _ trivial (fun _ => ?_)
            clear hK K
            try simp only [List.setIfInBounds_toArray, List.set_cons_zero, List.set_cons_succ]
            refine wpAnyH_take (i := 9) (v := ?_) rfl (by kernel_rfl) (by kernel_rfl) (by kernel_rfl) (fun _ _ _ h => h) (Or.inl ⟨by rfl, fun V hV => ?_⟩) trivial ?_
            rotate_left
            · go_simp
              try with_reducible rfl
            try simp only [Act.put, List.getElem_toArray, List.getElem_cons_zero, List.getElem_cons_succ, List.setIfInBounds_toArray, List.set_cons_zero, List.set_cons_succ]
            refine wpAnyH_ready (rs := [10]) (by kernel_rfl) (by simp) ?_
            refine AllReadyH.cons (o := _) rfl (fun K hK => ?_) AllReadyH.nil
            go_simp
            refine hK.out _ _ trivial (fun _ => ?_)
            clear hK K
            try simp only [List.setIfInBounds_toArray, List.set_cons_zero, List.set_cons_succ]
            refine wpAnyH_done (by kernel_rfl) ?_ _; exact ⟨(HC7.out.setCell (p := ⟨w.heap.size + 1 + 1, 0, none⟩) (fun _ => .inl rfl) _).setCell (p := ⟨w.heap.size + 1 + 1, 1, none⟩) (fun _ => .inl rfl) _, (HN7.out.setCell (p := ⟨w.heap.size + 1 + 1, 0, none⟩) (fun h => by simp at h <;> omega) _).setCell (p := ⟨w.heap.size + 1 + 1, 1, none⟩) (fun h => by simp at h <;> omega) _, HR.out ▸ HI7.out.set _ _⟩
          refine AllReadyH.cons (o := _) rfl (fun K hK => ?_) AllReadyH.nil
          go_simp
          refine hK.out _ _ trivial (fun _ => ?_)
          clear hK K
          try simp only [List.setIfInBounds_toArray, List.set_cons_zero, List.set_cons_succ]
          refine wpAnyH_take (i := 8) (v := ?_) rfl (by kernel_rfl) (by kernel_rfl) (by kernel_rfl) (fun _ _ _ h => h) (Or.inl ⟨by rfl, fun V hV => ?_⟩) trivial ?_
          rotate_left
          · go_simp
            try with_reducible rfl
          try simp only [Act.put, List.getElem_toArray, List.getElem_cons_zero, List.getElem_cons_succ, List.setIfInBounds_toArray, List.set_cons_zero, List.set_cons_succ]
          refine wpAnyH_ready (rs := [3]) (by kernel_rfl) (by simp) ?_
          refine AllReadyH.cons (o := _) rfl (fun K hK => ?_) AllReadyH.nil
          go_simp
          refine hK.out _ _ trivial (fun _ => ?_)
          clear hK K
          try simp only [List.setIfInBounds_toArray, List.set_cons_zero, List.set_cons_succ]
          refine wpAnyH_ready (rs := [4]) (by kernel_rfl) (by simp) ?_
          refine AllReadyH.cons (o := _) rfl (fun K hK => ?_) AllReadyH.nil
          go_simp
          refine (min2_any _ _ _ _ e0 e1).mono ?_
          rintro e W' ⟨rfl, rfl⟩
          go_wp2_with fail
          refine hK.out _ _ trivial (fun _ => ?_)
          clear hK K
          try simp only [List.setIfInBounds_toArray, List.set_cons_zero, List.set_cons_succ]
          refine wpAnyH_take (i := 9) (v := ?_) rfl (by kernel_rfl) (by kernel_rfl) (by kernel_rfl) (fun _ _ _ h => h) (Or.inl ⟨by rfl, fun V hV => ?_⟩) trivial ?_
          rotate_left
          · go_simp
            try with_reducible rfl
          try simp only [Act.put, List.getElem_toArray, List.getElem_cons_zero, List.getElem_cons_succ, List.setIfInBounds_toArray, List.set_cons_zero, List.set_cons_succ]
          refine wpAnyH_ready (rs := [10]) (by kernel_rfl) (by simp) ?_
          refine AllReadyH.cons (o := _) rfl (fun K hK => ?_) AllReadyH.nil
          go_simp
          refine hK.out _ _ trivial (fun _ => ?_)
          clear hK K
          try simp only [List.setIfInBounds_toArray, List.set_cons_zero, List.set_cons_succ]
          refine wpAnyH_done (by kernel_rfl) ?_ _; exact ⟨(HC7.out.setCell (p := ⟨w.heap.size + 1 + 1, 0, none⟩) (fun _ => .inl rfl) _).setCell (p := ⟨w.heap.size + 1 + 1, 1, none⟩) (fun _ => .inl rfl) _, (HN7.out.setCell (p := ⟨w.heap.size + 1 + 1, 0, none⟩) (fun h => by simp at h <;> omega) _).setCell (p := ⟨w.heap.size + 1 + 1, 1, none⟩) (fun h => by simp at h <;> omega) _, HR.out ▸ HI7.out.set _ _⟩
        refine AllReadyH.cons (o := _) rfl (fun K hK => ?_) AllReadyH.nil
        go_simp
        refine hK.out _ _ trivial (fun _ => ?_)
        clear hK K
        try simp only [List.setIfInBounds_toArray, List.set_cons_zero, List.set_cons_succ]
        refine wpAnyH_take (i := 8) (v := ?_) rfl (by kernel_rfl) (by kernel_rfl) (by kernel_rfl) (fun _ _ _ h => h) (Or.inl ⟨by rfl, fun V hV => ?_⟩) trivial ?_
        rotate_left
        · go_simp
          try with_reducible rfl
        try simp only [Act.put, List.getElem_toArray, List.getElem_cons_zero, List.getElem_cons_succ, List.setIfInBounds_toArray, List.set_cons_zero, List.set_cons_succ]
        refine wpAnyH_ready (rs := [1]) (by kernel_rfl) (by simp) ?_
        refine AllReadyH.cons (o := _) rfl (fun K hK => ?_) AllReadyH.nil
        go_simp
        refine hK.out _ _ trivial (fun _ => ?_)
        clear hK K
        try simp only [List.setIfInBounds_toArray, List.set_cons_zero, List.set_cons_succ]
        refine wpAnyH_ready (rs := [3]) (by kernel_rfl) (by simp) ?_
        refine AllReadyH.cons (o := _) rfl (fun K hK => ?_) AllReadyH.nil
        go_simp
        refine hK.out _ _ trivial (fun _ => ?_)
        clear hK K
        try simp only [List.setIfInBounds_toArray, List.set_cons_zero, List.set_cons_succ]
        refine wpAnyH_ready (rs := [4]) (by kernel_rfl) (by simp) ?_
        refine AllReadyH.cons (o := _) rfl (fun K hK => ?_) AllReadyH.nil
        go_simp
        refine (min2_any _ _ _ _ e0 e1).mono ?_
        rintro e W' ⟨rfl, rfl⟩
        go_wp2_with fail
        refine hK.out _ _ trivial (fun _ => ?_)
        clear hK K
        try simp only [List.setIfInBounds_toArray, List.set_cons_zero, List.set_cons_succ]
        refine wpAnyH_take (i := 9) (v := ?_) rfl (by kernel_rfl) (by kernel_rfl) (by kernel_rfl) (fun _ _ _ h => h) (Or.inl ⟨by rfl, fun V hV => ?_⟩) trivial ?_
        rotate_left
        · go_simp
          try with_reducible rfl
        try simp only [Act.put, List.getElem_toArray, List.getElem_cons_zero, List.getElem_cons_succ, List.setIfInBounds_toArray, List.set_cons_zero, List.set_cons_succ]
        refine wpAnyH_ready (rs := [10]) (by kernel_rfl) (by simp) ?_
        refine AllReadyH.cons (o := _) rfl (fun K hK => ?_) AllReadyH.nil
        go_simp
        refine hK.out _ _ trivial (fun _ => ?_)
        clear hK K
        try simp only [List.setIfInBounds_toArray, List.set_cons_zero, List.set_cons_succ]
        refine wpAnyH_done (by kernel_rfl) ?_ _; exact ⟨(HC7.out.setCell (p := ⟨w.heap.size + 1 + 1, 0, none⟩) (fun _ => .inl rfl) _).setCell (p := ⟨w.heap.size + 1 + 1, 1, none⟩) (fun _ => .inl rfl) _, (HN7.out.setCell (p := ⟨w.heap.size + 1 + 1, 0, none⟩) (fun h => by simp at h <;> omega) _).setCell (p := ⟨w.heap.size + 1 + 1, 1, none⟩) (fun h => by simp at h <;> omega) _, HR.out ▸ HI7.out.set _ _⟩
      · skip
        have HR : Hid ((minI (lo) (F x), hi, true) = rngP F (pre ++ [x])) := by show _ = _; rw [rngP_snoc, HST.out]; simp [rngS, hmx]
        have hmx2 : ¬ hi < F x := by omega
        refine wpAnyH_take (i := 0) (v := ?_) rfl (by kernel_rfl) (by kernel_rfl) (by kernel_rfl) (fun _ _ _ h => h) (Or.inl ⟨by rfl, fun V hV => ?_⟩) trivial ?_
        rotate_left
        · go_simp
          try with_reducible rfl
        try simp only [Act.put, List.getElem_toArray, List.getElem_cons_zero, List.setIfInBounds_toArray, List.set_cons_zero, List.set_cons_succ]
        refine wpAnyH_take (i := 2) (v := ?_) rfl (by kernel_rfl) (by kernel_rfl) (by kernel_rfl) (fun _ _ _ h => h) (Or.inl ⟨by rfl, fun V hV => ?_⟩) trivial ?_
        rotate_left
        · go_simp
          try with_reducible rfl
        try simp only [Act.put, List.getElem_toArray, List.getElem_cons_zero, List.getElem_cons_succ, List.setIfInBounds_toArray, List.set_cons_zero, List.set_cons_succ]
        refine wpAnyH_take (i := 5) (v := ?_) rfl (by kernel_rfl) (by kernel_rfl) (by kernel_rfl) (fun _ _ _ h => h) (Or.inl ⟨by rfl, fun V hV => ?_⟩) trivial ?_
        rotate_left
        · go_simp
          try with_reducible rfl
        try simp only [Act.put, List.getElem_toArray, List.getElem_cons_zero, List.getElem_cons_succ, List.setIfInBounds_toArray, List.set_cons_zero, List.set_cons_succ]
        refine wpAnyH_take (i := 7) (v := ?_) rfl (by kernel_rfl) (by kernel_rfl) (by kernel_rfl) (fun _ _ _ h => h) (Or.inl ⟨by rfl, fun V hV => ?_⟩) trivial ?_
        rotate_left
        · go_simp
          try with_reducible rfl
        try simp only [Act.put, List.getElem_toArray, List.getElem_cons_zero, List.getElem_cons_succ, List.setIfInBounds_toArray, List.set_cons_zero, List.set_cons_succ]
        refine wpAnyH_ready (rs := [1, 6]) (by kernel_rfl) (by simp) ?_
        refine AllReadyH.cons (o := _) rfl (fun K hK => ?_) ?_
        · skip
          go_simp
          refine hK.out _ _ trivial (fun _ => ?_)
          clear hK K
          try simp only [List.setIfInBounds_toArray, List.set_cons_zero, List.set_cons_succ]
          refine wpAnyH_ready (rs := [3, 6]) (by kernel_rfl) (by simp) ?_
          refine AllReadyH.cons (o := _) rfl (fun K hK => ?_) ?_
          · skip
            go_simp
            refine hK.out _ _ trivial (fun _ => ?_)
            clear hK K
            try simp only [List.setIfInBounds_toArray, List.set_cons_zero, List.set_cons_succ]
            refine wpAnyH_ready (rs := [4, 6]) (by kernel_rfl) (by simp) ?_
            refine AllReadyH.cons (o := _) rfl (fun K hK => ?_) ?_
            · skip
              go_simp
              refine (min2_any _ _ _ _ e0 e1).mono ?_
              rintro e W' ⟨rfl, rfl⟩
              go_wp2_with fail
              refine hK.out _ _ trivial (fun _ => ?_)
              clear hK K
              try simp only [List.setIfInBounds_toArray, List.set_cons_zero, List.set_cons_succ]
              refine wpAnyH_ready (rs := [6]) (by kernel_rfl) (by simp) ?_
              refine AllReadyH.cons (o := _) rfl (fun K hK => ?_) AllReadyH.nil
              go_simp
              refine hK.out _ _ trivial (fun _ => ?_)
              clear hK K
              try simp only [List.setIfInBounds_toArray, List.set_cons_zero, List.set_cons_succ]
              refine wpAnyH_take (i := 8) (v := ?_) rfl (by kernel_rfl) (by kernel_rfl) (by kernel_rfl) (fun _ _ _ h => h) (Or.inl ⟨by rfl, fun V hV => ?_⟩) trivial ?_
              rotate_left
              · go_simp
                try with_reducible rfl
              try simp only [Act.put, List.getElem_toArray, List.getElem_cons_zero, List.getElem_cons_succ, List.setIfInBounds_toArray, List.set_cons_zero, List.set_cons_succ]
              refine wpAnyH_take (i := 9) (v := ?_) rfl (by kernel_rfl) (by kernel_rfl) (by kernel_rfl) (fun _ _ _ h => h) (Or.inl ⟨by rfl, fun V hV => ?_⟩) trivial ?_
              rotate_left
              · go_simp
                try with_reducible rfl
              try simp only [Act.put, List.getElem_toArray, List.getElem_cons_zero, List.getElem_cons_succ, List.setIfInBounds_toArray, List.set_cons_zero, List.set_cons_succ]
              refine wpAnyH_ready (rs := [10]) (by kernel_rfl) (by simp) ?_
              refine AllReadyH.cons (o := _) rfl (fun K hK => ?_) AllReadyH.nil
              go_simp
              refine hK.out _ _ trivial (fun _ => ?_)
              clear hK K
              try simp only [List.setIfInBounds_toArray, List.set_cons_zero, List.set_cons_succ]
              refine wpAnyH_done (by kernel_rfl) ?_ _; (first | exact ⟨(HC7.out.setCell (p := ⟨w.heap.size + 1 + 1, 0, none⟩) (fun _ => .inl rfl) _).setCell (p := ⟨w.heap.size + 1 + 1, 1, none⟩) (fun _ => .inl rfl) _, (HN7.out.setCell (p := ⟨w.heap.size + 1 + 1, 0, none⟩) (fun h => by simp at h <;> omega) _).setCell (p := ⟨w.heap.size + 1 + 1, 1, none⟩) (fun h => by simp at h <;> omega) _, HR.out ▸ HI7.out.set _ _⟩ | (simp only [if_neg (show ¬ hi < F x by omega)]; exact ⟨(HC7.out.setCell (p := ⟨w.heap.size + 1 + 1, 0, none⟩) (fun _ => .inl rfl) _).setCell (p := ⟨w.heap.size + 1 + 1, 1, none⟩) (fun _ => .inl rfl) _, (HN7.out.setCell (p := ⟨w.heap.size + 1 + 1, 0, none⟩) (fun h => by simp at h <;> omega) _).setCell (p := ⟨w.heap.size + 1 + 1, 1, none⟩) (fun h => by simp at h <;> omega) _, HR.out ▸ HI7.out.set _ _⟩))
            refine AllReadyH.cons (o := _) rfl (fun K hK => ?_) AllReadyH.nil
            go_simp
            refine hK.out _ _ trivial (fun _ => ?_)
            clear hK K
            try simp only [List.setIfInBounds_toArray, List.set_cons_zero, List.set_cons_succ]
            refine wpAnyH_take (i := 8) (v := ?_) rfl (by kernel_rfl) (by kernel_rfl) (by kernel_rfl) (fun _ _ _ h => h) (Or.inl ⟨by rfl, fun V hV => ?_⟩) trivial ?_
            rotate_left
            · go_simp
              try with_reducible rfl
            try simp only [Act.put, List.getElem_toArray, List.getElem_cons_zero, List.getElem_cons_succ, List.setIfInBounds_toArray, List.set_cons_zero, List.set_cons_succ]
            refine wpAnyH_ready (rs := [4]) (by kernel_rfl) (by simp) ?_
            refine AllReadyH.cons (o := _) rfl (fun K hK => ?_) AllReadyH.nil
            go_simp
            refine (min2_any _ _ _ _ e0 e1).mono ?_
            rintro e W' ⟨rfl, rfl⟩
            go_wp2_with fail
            refine hK.out _ _ trivial (fun _ => ?_)
            clear hK K
            try simp only [List.setIfInBounds_toArray, List.set_cons_zero, List.set_cons_succ]
            refine wpAnyH_take (i := 9) (v := ?_) rfl (by kernel_rfl) (by kernel_rfl) (by kernel_rfl) (fun _ _ _ h => h) (Or.inl ⟨by rfl, fun V hV => ?_⟩) trivial ?_
            rotate_left
            · go_simp
              try with_reducible rfl
            try simp only [Act.put, List.getElem_toArray, List.getElem_cons_zero, List.getElem_cons_succ, List.setIfInBounds_toArray, List.set_cons_zero, List.set_cons_succ]
            refine wpAnyH_ready (rs := [10]) (by kernel_rfl) (by simp) ?_
            refine AllReadyH.cons (o := _) rfl (fun K hK => ?_) AllReadyH.nil
            go_simp
            refine hK.out _ _ trivial (fun _ => ?_)
            clear hK K
            try simp only [List.setIfInBounds_toArray, List.set_cons_zero, List.set_cons_succ]
            refine wpAnyH_done (by kernel_rfl) ?_ _; (first | exact ⟨(HC7.out.setCell (p := ⟨w.heap.size + 1 + 1, 0, none⟩) (fun _ => .inl rfl) _).setCell (p := ⟨w.heap.size + 1 + 1, 1, none⟩) (fun _ => .inl rfl) _, (HN7.out.setCell (p := ⟨w.heap.size + 1 + 1, 0, none⟩) (fun h => by simp at h <;> omega) _).setCell (p := ⟨w.heap.size + 1 + 1, 1, none⟩) (fun h => by simp at h <;> omega) _, HR.out ▸ HI7.out.set _ _⟩ | (simp only [if_neg (show ¬ hi < F x by omega)]; exact ⟨(HC7.out.setCell (p := ⟨w.heap.size + 1 + 1, 0, none⟩) (fun _ => .inl rfl) _).setCell (p := ⟨w.heap.size + 1 + 1, 1, none⟩) (fun _ => .inl rfl) _, (HN7.out.setCell (p := ⟨w.heap.size + 1 + 1, 0, none⟩) (fun h => by simp at h <;> omega) _).setCell (p := ⟨w.heap.size + 1 + 1, 1, none⟩) (fun h => by simp at h <;> omega) _, HR.out ▸ HI7.out.set _ _⟩))
          refine AllReadyH.cons (o := _) rfl (fun K hK => ?_) AllReadyH.nil
          go_simp
          refine hK.out _ _ trivial (fun _ => ?_)
          clear hK K
          try simp only [List.setIfInBounds_toArray, List.set_cons_zero, List.set_cons_succ]
          refine wpAnyH_take (i := 8) (v := ?_) rfl (by kernel_rfl) (by kernel_rfl) (by kernel_rfl) (fun _ _ _ h => h) (Or.inl ⟨by rfl, fun V hV => ?_⟩) trivial ?_
          rotate_left
          · go_simp
            try with_reducible rfl
          try simp only [Act.put, List.getElem_toArray, List.getElem_cons_zero, List.getElem_cons_succ, List.setIfInBounds_toArray, List.set_cons_zero, List.set_cons_succ]
          refine wpAnyH_ready (rs := [3]) (by kernel_rfl) (by simp) ?_
          refine AllReadyH.cons (o := _) rfl (fun K hK => ?_) AllReadyH.nil
          go_simp
          refine hK.out _ _ trivial (fun _ => ?_)
          clear hK K
          try simp only [List.setIfInBounds_toArray, List.set_cons_zero, List.set_cons_succ]
          refine wpAnyH_ready (rs := [4]) (by kernel_rfl) (by simp) ?_
          refine AllReadyH.cons (o := _) rfl (fun K hK => ?_) AllReadyH.nil
          go_simp
          refine (min2_any _ _ _ _ e0 e1).mono ?_
          rintro e W' ⟨rfl, rfl⟩
          go_wp2_with fail
          refine hK.out _ _ trivial (fun _ => ?_)
          clear hK K
          try simp only [List.setIfInBounds_toArray, List.set_cons_zero, List.set_cons_succ]
          refine wpAnyH_take (i := 9) (v := ?_) rfl (by kernel_rfl) (by kernel_rfl) (by kernel_rfl) (fun _ _ _ h => h) (Or.inl ⟨by rfl, fun V hV => ?_⟩) trivial ?_
          rotate_left
          · go_simp
            try with_reducible rfl
          try simp only [Act.put, List.getElem_toArray, List.getElem_cons_zero, List.getElem_cons_succ, List.setIfInBounds_toArray, List.set_cons_zero, List.set_cons_succ]
          refine wpAnyH_ready (rs := [10]) (by kernel_rfl) (by simp) ?_
          refine AllReadyH.cons (o := _) rfl (fun K hK => ?_) AllReadyH.nil
          go_simp
          refine hK.out _ _ trivial (fun _ => ?_)
          clear hK K
          try simp only [List.setIfInBounds_toArray, List.set_cons_zero, List.set_cons_succ]
          refine wpAnyH_done (by kernel_rfl) ?_ _; (first | exact ⟨(HC7.out.setCell (p := ⟨w.heap.size + 1 + 1, 0, none⟩) (fun _ => .inl rfl) _).setCell (p := ⟨w.heap.size + 1 + 1, 1, none⟩) (fun _ => .inl rfl) _, (HN7.out.setCell (p := ⟨w.heap.size + 1 + 1, 0, none⟩) (fun h => by simp at h <;> omega) _).setCell (p := ⟨w.heap.size + 1 + 1, 1, none⟩) (fun h => by simp at h <;> omega) _, HR.out ▸ HI7.out.set _ _⟩ | (simp only [if_neg (show ¬ hi < F x by omega)]; exact ⟨(HC7.out.setCell (p := ⟨w.heap.size + 1 + 1, 0, none⟩) (fun _ => .inl rfl) _).setCell (p := ⟨w.heap.size + 1 + 1, 1, none⟩) (fun _ => .inl rfl) _, (HN7.out.setCell (p := ⟨w.heap.size + 1 + 1, 0, none⟩) (fun h => by simp at h <;> omega) _).setCell (p := ⟨w.heap.size + 1 + 1, 1, none⟩) (fun h => by simp at h <;> omega) _, HR.out ▸ HI7.out.set _ _⟩))
        refine AllReadyH.cons (o := _) rfl (fun K hK => ?_) AllReadyH.nil
        go_simp
        refine hK.out _ _ trivial (fun _ => ?_)
        clear hK K
        try simp only [List.setIfInBounds_toArray, List.set_cons_zero, List.set_cons_succ]
        refine wpAnyH_take (i := 8) (v := ?_) rfl (by kernel_rfl) (by kernel_rfl) (by kernel_rfl) (fun _ _ _ h => h) (Or.inl ⟨by rfl, fun V hV => ?_⟩) trivial ?_
        rotate_left
        · go_simp
          try with_reducible rfl
        try simp only [Act.put, List.getElem_toArray, List.getElem_cons_zero, List.getElem_cons_succ, List.setIfInBounds_toArray, List.set_cons_zero, List.set_cons_succ]
        refine wpAnyH_ready (rs := [1]) (by kernel_rfl) (by simp) ?_
        refine AllReadyH.cons (o := _) rfl (fun K hK => ?_) AllReadyH.nil
        go_simp
        refine hK.out _ _ trivial (fun _ => ?_)
        clear hK K
        try simp only [List.setIfInBounds_toArray, List.set_cons_zero, List.set_cons_succ]
        refine wpAnyH_ready (rs := [3]) (by kernel_rfl) (by simp) ?_
        refine AllReadyH.cons (o := _) rfl (fun K hK => ?_) AllReadyH.nil
        go_simp
        refine hK.out _ _ trivial (fun _ => ?_)
        clear hK K
        try simp only [List.setIfInBounds_toArray, List.set_cons_zero, List.set_cons_succ]
        refine wpAnyH_ready (rs := [4]) (by kernel_rfl) (by simp) ?_
        refine AllReadyH.cons (o := _) rfl (fun K hK => ?_) AllReadyH.nil
        go_simp
        refine (min2_any _ _ _ _ e0 e1).mono ?_
        rintro e W' ⟨rfl, rfl⟩
        go_wp2_with fail
        refine hK.out _ _ trivial (fun _ => ?_)
        clear hK K
        try simp only [List.setIfInBounds_toArray, List.set_cons_zero, List.set_cons_succ]
        refine wpAnyH_take (i := 9) (v := ?_) rfl (by kernel_rfl) (by kernel_rfl) (by kernel_rfl) (fun _ _ _ h => h) (Or.inl ⟨by rfl, fun V hV => ?_⟩) trivial ?_
        rotate_left
        · go_simp
          try with_reducible rfl
        try simp only [Act.put, List.getElem_toArray, List.getElem_cons_zero, List.getElem_cons_succ, List.setIfInBounds_toArray, List.set_cons_zero, List.set_cons_succ]
        refine wpAnyH_ready (rs := [10]) (by kernel_rfl) (by simp) ?_
        refine AllReadyH.cons (o := _) rfl (fun K hK => ?_) AllReadyH.nil
        go_simp
        refine hK.out _ _ trivial (fun _ => ?_)
        clear hK K
        try simp only [List.setIfInBounds_toArray, List.set_cons_zero, List.set_cons_succ]
        refine wpAnyH_done (by kernel_rfl) ?_ _; (first | exact ⟨(HC7.out.setCell (p := ⟨w.heap.size + 1 + 1, 0, none⟩) (fun _ => .inl rfl) _).setCell (p := ⟨w.heap.size + 1 + 1, 1, none⟩) (fun _ => .inl rfl) _, (HN7.out.setCell (p := ⟨w.heap.size + 1 + 1, 0, none⟩) (fun h => by simp at h <;> omega) _).setCell (p := ⟨w.heap.size + 1 + 1, 1, none⟩) (fun h => by simp at h <;> omega) _, HR.out ▸ HI7.out.set _ _⟩ | (simp only [if_neg (show ¬ hi < F x by omega)]; exact ⟨(HC7.out.setCell (p := ⟨w.heap.size + 1 + 1, 0, none⟩) (fun _ => .inl rfl) _).setCell (p := ⟨w.heap.size + 1 + 1, 1, none⟩) (fun _ => .inl rfl) _, (HN7.out.setCell (p := ⟨w.heap.size + 1 + 1, 0, none⟩) (fun h => by simp at h <;> omega) _).setCell (p := ⟨w.heap.size + 1 + 1, 1, none⟩) (fun h => by simp at h <;> omega) _, HR.out ▸ HI7.out.set _ _⟩))
  case done =>
    rintro W ⟨hnW, hI⟩ hK hsz
    obtain ⟨⟨lo, hi, is⟩, hst⟩ : ∃ st, rngP F (genP (okP cs outl cc sm) l 0 []) = st := ⟨_, rfl⟩
    rw [hst] at hI
    have HST := hid hst
    have HI := hid hI
    have HN := hid hnW
    have HK := hid hK
    have HZ5 := hid hsz5
    have d2 := hI.k2
    have d3 := hI.k3
    have d4 := hI.k4
    have z2 := hI.z2
    have z3 := hI.z3
    have z4 := hI.z4
    have e2 : (W.setCell ⟨w.heap.size + 1 + 1, 0, none⟩ (.int .i64 lo)).cell? ⟨w.heap.size + 1 + 1, 1, none⟩ = some (.int .i64 hi) := (World.cell?_setCell_other _ _ _ _ (by simp)).trans d3
    have HI9 := (hI.set lo hi)
    have e4 := HI9.k4
    obtain ⟨W9, hW9⟩ : ∃ W9, (((W.setCell ⟨w.heap.size + 1 + 1, 0, none⟩ (.int .i64 lo)).setCell ⟨w.heap.size + 1 + 1, 1, none⟩ (.int .i64 hi)).setCell ⟨w.heap.size + 1 + 1 + 1, 0, none⟩ (.bool is)).drew = W9 := ⟨_, rfl⟩
    have HB9 : BInv w 74 #[] b (lo, hi, is) W9 := by
      rw [← hW9]
      have := HI9.flag is
      exact ⟨this.k0, this.k1, this.k2, this.k3, this.k4, this.z2, this.z3, this.z4⟩
    have hn9 : Near (fun k => k = bm) w W9 := by
      rw [← hW9]
      exact (((hnW.setCell (p := ⟨w.heap.size + 1 + 1, 0, none⟩) (fun h => by simp at h <;> omega) _).setCell (p := ⟨w.heap.size + 1 + 1, 1, none⟩) (fun h => by simp at h <;> omega) _).setCell (p := ⟨w.heap.size + 1 + 1 + 1, 0, none⟩) (fun h => by simp at h <;> omega) _).drew
    have hK9 : W9.heap[w5.heap.size]? = some (.deferred (some [])) := by
      rw [← hW9]
      refine Eq.trans ?_ hK
      show (((W.setCell _ _).setCell _ _).setCell _ _).heap[_]? = _
      rw [Below.heap_setCell _ _ _ _ (by show _ ≠ w.heap.size + 1 + 1 + 1; omega), Below.heap_setCell _ _ _ _ (by show _ ≠ w.heap.size + 1 + 1; omega), Below.heap_setCell _ _ _ _ (by show _ ≠ w.heap.size + 1 + 1; omega)]
    have hB10 : BInv w 74 #[] b (lo, hi, is) (W9.putObj w5.heap.size (.deferred none)) := HB9.near (Near.putObj _ _) (fun k h1 h2 => by omega)
    have hn10 : Near (fun k => k = bm) w (W9.putObj w5.heap.size (.deferred none)) := hn9.trans' (Near.putObj _ _) (fun i hi hT => by omega)
    have r2 := hB10.k2
    have r3 := hB10.k3
    have r4 := hB10.k4
    have HN10 := hid hn10
    have HK9 := hid hK9
    clear hn9 hn10 hK9 HB9 hB10 HI9
    clear hst hI hnW hK hsz hsz5 hsz4 hb5 k1 hw5 hW4
    gi_wp2
    refine wpIn_region_held_wide (S := fun V => True) (by kernel_rfl) trivial (fun _ => ?_)
    simp only [List.size_toArray, List.length_cons, List.length_nil, Nat.reduceAdd, Array.replicate_succ, Array.replicate_zero, List.push_toArray, List.nil_append, List.cons_append]
    refine wpAnyH_ready (rs := [0, 1]) (by kernel_rfl) (by simp) ?_
    refine AllReadyH.cons (o := _) rfl (fun K hK => ?_) ?_
    · skip
      go_simp
      refine hK.out _ _ trivial (fun _ => ?_)
      clear hK K
      try simp only [List.setIfInBounds_toArray, List.set_cons_zero]
      refine wpAnyH_ready (rs := [1, 2]) (by kernel_rfl) (by simp) ?_
      refine AllReadyH.cons (o := _) rfl (fun K hK => ?_) ?_
      · skip
        go_simp
        refine hK.out _ _ trivial (fun _ => ?_)
        clear hK K
        try simp only [List.setIfInBounds_toArray, List.set_cons_zero, List.set_cons_succ]
        refine wpAnyH_ready (rs := [2]) (by kernel_rfl) (by simp) ?_
        refine AllReadyH.cons (o := _) rfl (fun K hK => ?_) AllReadyH.nil
        go_simp
        refine hK.out _ _ trivial (fun _ => ?_)
        clear hK K
        try simp only [List.setIfInBounds_toArray, List.set_cons_zero, List.set_cons_succ]
        refine wpAnyH_ready (rs := [3]) (by kernel_rfl) (by simp) ?_
        refine AllReadyH.cons (o := _) rfl (fun K hK => ?_) AllReadyH.nil
        go_simp
        refine hK.out _ _ trivial (fun _ => ?_)
        clear hK K
        try simp only [List.setIfInBounds_toArray, List.set_cons_zero, List.set_cons_succ]
        refine wpAnyH_done (by kernel_rfl) ?_ _; gi_wp2; refine ⟨by simp, .inl ⟨_, _, rfl, run_takeDeferred HK9.out, ?_⟩⟩; exact ⟨_, by simp [results, Try.f82, go_sem, r2, r3, r4]; rfl, by rw [HST.out], HN10.out⟩
      refine AllReadyH.cons (o := _) rfl (fun K hK => ?_) AllReadyH.nil
      go_simp
      refine hK.out _ _ trivial (fun _ => ?_)
      clear hK K
      try simp only [List.setIfInBounds_toArray, List.set_cons_zero, List.set_cons_succ]
      refine wpAnyH_ready (rs := [1]) (by kernel_rfl) (by simp) ?_
      refine AllReadyH.cons (o := _) rfl (fun K hK => ?_) AllReadyH.nil
      go_simp
      refine hK.out _ _ trivial (fun _ => ?_)
      clear hK K
      try simp only [List.setIfInBounds_toArray, List.set_cons_zero, List.set_cons_succ]
      refine wpAnyH_ready (rs := [3]) (by kernel_rfl) (by simp) ?_
      refine AllReadyH.cons (o := _) rfl (fun K hK => ?_) AllReadyH.nil
      go_simp
      refine hK.out _ _ trivial (fun _ => ?_)
      clear hK K
      try simp only [List.setIfInBounds_toArray, List.set_cons_zero, List.set_cons_succ]
      refine wpAnyH_done (by kernel_rfl) ?_ _; gi_wp2; refine ⟨by simp, .inl ⟨_, _, rfl, run_takeDeferred HK9.out, ?_⟩⟩; exact ⟨_, by simp [results, Try.f82, go_sem, r2, r3, r4]; rfl, by rw [HST.out], HN10.out⟩
    refine AllReadyH.cons (o := _) rfl (fun K hK => ?_) AllReadyH.nil
    go_simp
    refine hK.out _ _ trivial (fun _ => ?_)
    clear hK K
    try simp only [List.setIfInBounds_toArray, List.set_cons_zero, List.set_cons_succ]
    refine wpAnyH_ready (rs := [0]) (by kernel_rfl) (by simp) ?_
    refine AllReadyH.cons (o := _) rfl (fun K hK => ?_) AllReadyH.nil
    go_simp
    refine hK.out _ _ trivial (fun _ => ?_)
    clear hK K
    try simp only [List.setIfInBounds_toArray, List.set_cons_zero]
    refine wpAnyH_ready (rs := [2]) (by kernel_rfl) (by simp) ?_
    refine AllReadyH.cons (o := _) rfl (fun K hK => ?_) AllReadyH.nil
    go_simp
    refine hK.out _ _ trivial (fun _ => ?_)
    clear hK K
    try simp only [List.setIfInBounds_toArray, List.set_cons_zero, List.set_cons_succ]
    refine wpAnyH_ready (rs := [3]) (by kernel_rfl) (by simp) ?_
    refine AllReadyH.cons (o := _) rfl (fun K hK => ?_) AllReadyH.nil
    go_simp
    refine hK.out _ _ trivial (fun _ => ?_)
    clear hK K
    try simp only [List.setIfInBounds_toArray, List.set_cons_zero, List.set_cons_succ]
    refine wpAnyH_done (by kernel_rfl) ?_ _; gi_wp2; refine ⟨by simp, .inl ⟨_, _, rfl, run_takeDeferred HK9.out, ?_⟩⟩; exact ⟨_, by simp [results, Try.f82, go_sem, r2, r3, r4]; rfl, by rw [HST.out], HN10.out⟩
  case stop => intro _ _ _ _ h; exact h.elim

end Go.Proofs.Ytlicijnaacdceaa
