/- What Leave asks of a list. -/
import Derived.Test.YtlicijnaacdceaaProY
namespace Go.Proofs.Ytlicijnaacdceaa
open Go.RowKit

theorem rngP_is (F : List Int → Int) (xs : List (List Int)) : (rngP F xs).2.2 = !xs.isEmpty := by
  have h : ∀ (ys : List (List Int)) (st : Int × Int × Bool), (ys.foldl (rngS F) st).2.2 = (st.2.2 || !ys.isEmpty) := by
    intro ys
    induction ys with
    | nil => intro st; simp
    | cons y ys ih => intro st; rw [List.foldl_cons, ih]; simp [rngS]
  rw [rngP, h]; simp

/-- What a survey's box holds, and its slices, beside cell cf. -/
structure SurvBox (W : World) (cf bs : Nat) (r cc : Int) (p : Option Addr) (n c : Nat) (l : List Int) (sm : Int) (q : Option Addr) (m d : Nat) (cs : List Cnt) : Prop where
  c0 : W.cell? ⟨bs, 0, none⟩ = some (.int .i64 r)
  c1 : W.cell? ⟨bs, 1, none⟩ = some (.int .i64 cc)
  c2 : W.cell? ⟨bs, 2, none⟩ = some (.slice p n c)
  c3 : W.cell? ⟨bs, 3, none⟩ = some (.int .i64 sm)
  c4 : W.cell? ⟨bs, 4, none⟩ = some (.slice q m d)
  ints : IntsAt W p n l
  cnts : CntsAt W q m cs
  ne : bs ≠ cf
  nep : ∀ a, p = some a → 0 < n → a.block ≠ cf
  neq : ∀ a, q = some a → 0 < m → a.block ≠ cf
theorem SurvBox.near {W W' : World} {cf bs : Nat} {r cc : Int} {p : Option Addr} {n c : Nat} {l : List Int} {sm : Int} {q : Option Addr} {m d : Nat} {cs : List Cnt} (h : SurvBox W cf bs r cc p n c l sm q m d cs) (hn : Near (fun k => k = cf) W W') : SurvBox W' cf bs r cc p n c l sm q m d cs :=
  ⟨near_cell h.c0 hn h.ne, near_cell h.c1 hn h.ne, near_cell h.c2 hn h.ne, near_cell h.c3 hn h.ne, near_cell h.c4 hn h.ne, h.ints.kept (fun a ha h0 hlt => hn.block _ hlt (h.nep a ha h0)), h.cnts.kept (fun a ha h0 hlt => hn.block _ hlt (h.neq a ha h0)) hn.size, h.ne, h.nep, h.neq⟩

/-- Whether there is a truth without some counts. -/
def leftB (cc : Int) (l : List Int) (sm : Int) (cs : List Cnt) (X : List Int) : Bool := !(genP (okP cs X cc sm) l 0 []).isEmpty

set_option maxRecDepth 40000 in
set_option maxHeartbeats 8000000 in
theorem leave1_any (cf bs : Nat) (r cc : Int) (p : Option Addr) (n c : Nat) (l : List Int) (sm : Int) (q : Option Addr) (m d : Nat) (cs : List Cnt) (X : List Int) (px : Option Addr) (kx cx : Nat) (W : World) (hm : m ≤ 100) (hf : faultL r cc l sm cs = 0)
    (hB : SurvBox W cf bs r cc p n c l sm q m d cs) (hF : Free W cf) (hP : PreAt cf W px kx X) (hk100 : kx ≤ 100) :
    Calls Try.prog 81 #[.slice px kx cx, .pointer (some ⟨cf, 0, none⟩), .pointer (some ⟨bs, 0, none⟩)] W (LPost cf W (if leftB cc l sm cs X = true then some X else none)) := by
  have HFF := field_facts (fault0 hf).2.1
  have HSM : Hid (0 ≤ sm ∧ sm ≤ 9) := by
    show _ ∧ _
    have := (fault0 hf).2.2.1; simpa [inB] using this
  have HN9 : Hid (n ≤ 9) := by have := HFF.2.2.2.2.2.2.1; have := hB.ints.1; show n ≤ 9; omega
  have HSB := hid HFF.2.2.2.2.2.2.2
  have HC1 := hid HFF.2.2.1
  have HC4 := hid HFF.2.2.2.1
  obtain ⟨u, hu1, hu2⟩ := hF
  obtain ⟨W1, hW1⟩ : ∃ W1, W.setCell ⟨cf, 0, none⟩ (.slice px kx cx) = W1 := ⟨_, rfl⟩
  have hn1 : Near (fun k => k = cf) W W1 := by rw [← hW1]; exact (Near.refl (fun k => k = cf) W).setCell (p := ⟨cf, 0, none⟩) (fun _ => rfl) _
  have HF1 : Hid (W1.cell? ⟨cf, 0, none⟩ = some (.slice px kx cx)) := by rw [← hW1]; exact World.cell?_setCell_same' _ _ _ (by rw [hu1]; rfl)
  have HF2 : Hid (W1.frozen? ⟨cf, 0, none⟩ = false) := by rw [← hW1]; exact (World.frozen?_setCell _ _ _ _).trans hu2
  have hB1 := hB.near hn1
  have hcf1 : cf < W1.heap.size := World.block_lt_of_cell? _ _ HF1.out
  have HXX : Hid (∀ V, Below W1.heap.size W1 V → IntsAt V px kx X) := fun V hV => (hP.near hn1).1.below hV
  have HL : Hid (∀ V, Below W1.heap.size W1 V → IntsAt V p n l) := fun V hV => hB1.ints.below hV
  have HCS : Hid (∀ V, Below W1.heap.size W1 V → CntsAt V q m cs) := fun V hV => hB1.cnts.below hV
  have HOF : Hid (∀ V, Below W1.heap.size W1 V → ∀ x ∈ genP (okP cs X cc sm) l 0 [], Calls Try.prog 74 #[.agg #[.int .i64 r, .int .i64 cc, .slice p n c], hitsV x] V fun e W' => e = .returned (.int .i64 (shareL l x)) ∧ Below V.heap.size V W') := by
    intro V hV x hx
    have hxb := listed_bd (genP_listed hx) HSB.out
    exact fieldShare_any r cc p n c l x V (HL.out V hV) (by rw [hxb.1]; exact hB.ints.1) HN9.out HSB.out hxb.2
  have HV : Hid (∀ V, Below W1.heap.size W1 V → V.cell? ⟨bs, 0, none⟩ = some (.int .i64 r) ∧ V.cell? ⟨bs, 1, none⟩ = some (.int .i64 cc) ∧ V.cell? ⟨bs, 2, none⟩ = some (.slice p n c) ∧ V.cell? ⟨bs, 3, none⟩ = some (.int .i64 sm) ∧ V.cell? ⟨bs, 4, none⟩ = some (.slice q m d)) := by
    intro V hV
    have kk : ∀ (p : Addr) (v : Value), W1.cell? p = some v → V.cell? p = some v := fun p v h => (hV.cell (World.block_lt_of_cell? _ _ h)).trans h
    exact ⟨kk _ _ hB1.c0, kk _ _ hB1.c1, kk _ _ hB1.c2, kk _ _ hB1.c3, kk _ _ hB1.c4⟩
  obtain ⟨⟨lo, hi, is⟩, hR⟩ : ∃ st, rngP (shareL l) (genP (okP cs X cc sm) l 0 []) = st := ⟨_, rfl⟩
  have hleft : leftB cc l sm cs X = is := by
    have := rngP_is (shareL l) (genP (okP cs X cc sm) l 0 [])
    rw [hR] at this
    exact this.symm
  obtain ⟨res, hres⟩ : ∃ res, (if leftB cc l sm cs X = true then some X else none) = res := ⟨_, rfl⟩
  rw [hres]
  have HRES : Hid (Ending.returned (.bool is) = .returned (.bool res.isSome)) := by
    show _ = _
    rw [← hres, hleft]; cases is <;> rfl
  have HRESX : Hid (∀ Y, res = some Y → Y = X) := by
    intro Y hY
    rw [← hres] at hY
    split at hY
    · cases hY; rfl
    · cases hY
  have HR := hid hR
  have HN1 := hid hn1
  clear hB hP hf HFF hn1 hB1 hR hleft hres
  go_enter Try.func81, Try.ntmps81
  go_wp2_with fail
  refine wp_region_held_drew (S := fun V => Below W1.heap.size W1 V) (by kernel_rfl) (Below.refl _ _).drew (fun hS => ?_)
  simp only [List.size_toArray, List.length_cons, List.length_nil, Nat.reduceAdd, Array.replicate_succ, Array.replicate_zero, List.push_toArray, List.nil_append, List.cons_append]
  refine wpAnyH_take (i := 1) (v := ?_) rfl (by kernel_rfl) (by kernel_rfl) (by kernel_rfl) (fun _ _ _ h => h) (Or.inl ⟨by rfl, fun V hV => ?_⟩) (by assumption) ?_
  rotate_left
  · have ⟨v0, v1, v2, v3, v4⟩ := HV.out V hV; go_simp
    try with_reducible rfl
  try simp only [Act.put, List.getElem_toArray, List.getElem_cons_zero, List.getElem_cons_succ, List.setIfInBounds_toArray, List.set_cons_zero, List.set_cons_succ]
  refine wpAnyH_take (i := 2) (v := ?_) rfl (by kernel_rfl) (by kernel_rfl) (by kernel_rfl) (fun _ _ _ h => h) (Or.inl ⟨by rfl, fun V hV => ?_⟩) (by assumption) ?_
  rotate_left
  · go_simp
    try with_reducible rfl
  try simp only [Act.put, List.getElem_toArray, List.getElem_cons_zero, List.getElem_cons_succ, List.setIfInBounds_toArray, List.set_cons_zero, List.set_cons_succ]
  refine wpAnyH_ready (rs := [0, 8]) (by kernel_rfl) (by simp) ?_
  refine AllReadyH.cons (o := _) rfl (fun K hK => ?_) ?_
  · skip
    go_simp
    refine (shareQ_any _).mono ?_
    rintro e V0 ⟨rfl, hb0⟩
    refine hK.out _ _ (hS.trans (hb0.mono hS.size)) (fun hS => ?_)
    clear hK K
    try simp only [List.setIfInBounds_toArray, List.set_cons_zero]
    refine wpAnyH_ready (rs := [3, 8]) (by kernel_rfl) (by simp) ?_
    refine AllReadyH.cons (o := _) rfl (fun K hK => ?_) ?_
    · skip
      go_simp
      have hX := hS.size
      refine (work_any _ _ _ _ _ _ _ _ _ _ _ _ _).mono ?_
      rintro e V3 ⟨rfl, hwork, hmap, hz, hb⟩
      have hS2 := hS.trans (hb.mono hS.size)
      have hX2 : W1.heap.size ≤ V0.heap.size + 1 := by omega
      have hA2 : V3.heap.size ≠ V0.heap.size + 1 := by have := hmap.lt; omega
      clear hz
      refine hK.out _ _ (hS2) (fun hS => ?_)
      clear hK K
      try simp only [List.setIfInBounds_toArray, List.set_cons_zero, List.set_cons_succ]
      refine wpAnyH_ready (rs := [4, 8]) (by kernel_rfl) (by simp) ?_
      refine AllReadyH.cons (o := _) rfl (fun K hK => ?_) ?_
      · skip
        go_simp
        refine (bounds_share_any_st (shareL l) HR.out _ (hwork.below (Below.refl _ _)) (HL.out _ hS) (HCS.out _ hS) (HXX.out _ hS) (hmap.below (Below.refl _ _)) HN9.out (by omega) hk100 HSB.out HC1.out HC4.out HSM.out.1 HSM.out.2 (fun W hW x hx => HOF.out W (hS.trans (hW.below hS.size (fun k hk e => by omega))) x hx)).mono ?_
        rintro e V4 ⟨rfl, hn4⟩
        refine hK.out _ _ (hS.trans (hn4.below hS.size (fun k hk e => by omega))) (fun hS => ?_)
        clear hK K
        try simp only [List.setIfInBounds_toArray, List.set_cons_zero, List.set_cons_succ]
        refine wpAnyH_take (i := 5) (v := ?_) rfl (by kernel_rfl) (by kernel_rfl) (by kernel_rfl) (fun _ _ _ h => h) (Or.inl ⟨by rfl, fun V hV => ?_⟩) (by assumption) ?_
        rotate_left
        · go_simp
          try with_reducible rfl
        try simp only [Act.put, List.getElem_toArray, List.getElem_cons_zero, List.getElem_cons_succ, List.setIfInBounds_toArray, List.set_cons_zero, List.set_cons_succ]
        refine wpAnyH_take (i := 6) (v := ?_) rfl (by kernel_rfl) (by kernel_rfl) (by kernel_rfl) (fun _ _ _ h => h) (Or.inl ⟨by rfl, fun V hV => ?_⟩) (by assumption) ?_
        rotate_left
        · go_simp
          try with_reducible rfl
        try simp only [Act.put, List.getElem_toArray, List.getElem_cons_zero, List.getElem_cons_succ, List.setIfInBounds_toArray, List.set_cons_zero, List.set_cons_succ]
        refine wpAnyH_take (i := 7) (v := ?_) rfl (by kernel_rfl) (by kernel_rfl) (by kernel_rfl) (fun _ _ _ h => h) (Or.inl ⟨by rfl, fun V hV => ?_⟩) (by assumption) ?_
        rotate_left
        · go_simp
          try with_reducible rfl
        try simp only [Act.put, List.getElem_toArray, List.getElem_cons_zero, List.getElem_cons_succ, List.setIfInBounds_toArray, List.set_cons_zero, List.set_cons_succ]
        refine wpAnyH_ready (rs := [8]) (by kernel_rfl) (by simp) ?_
        refine AllReadyH.cons (o := _) rfl (fun K hK => ?_) AllReadyH.nil
        obtain ⟨V8, hV8⟩ : ∃ V8, V4.alloc (.cells #[.int .i64 0, .int .i64 0] 62) = V8 := ⟨_, rfl⟩
        have a0 : V8.cell? ⟨V4.heap.size, 0, none⟩ = some (.int .i64 0) := by rw [← hV8]; exact cell_box V4 _ 62 0 _ rfl
        have a1 : V8.cell? ⟨V4.heap.size, 1, none⟩ = some (.int .i64 0) := by rw [← hV8]; exact cell_box V4 _ 62 1 _ rfl
        have b0 : V8.frozen? ⟨V4.heap.size, 0, none⟩ = false := by rw [← hV8]; exact frozen_new V4 _ 62 0 rfl
        have b1 : V8.frozen? ⟨V4.heap.size, 1, none⟩ = false := by rw [← hV8]; exact frozen_new V4 _ 62 1 rfl
        have hb8 : Below V4.heap.size V4 V8 := by rw [← hV8]; exact (Below.refl _ _).alloc (Nat.le_refl _) _
        have hA0 : W1.heap.size ≤ V4.heap.size := hS.size
        go_simp
        refine hK.out _ _ (hS.trans (hb8.mono hS.size)) (fun hS => ?_)
        clear hK K
        try simp only [List.setIfInBounds_toArray, List.set_cons_zero, List.set_cons_succ]
        refine wpAnyH_ready (rs := [9]) (by kernel_rfl) (by simp) ?_
        refine AllReadyH.cons (o := _) rfl (fun K hK => ?_) AllReadyH.nil
        go_simp
        refine hK.out _ _ ((hS.setCell (p := ⟨V4.heap.size, 0, none⟩) hA0 _).setCell (p := ⟨V4.heap.size, 1, none⟩) hA0 _) (fun hS => ?_)
        clear hK K
        try simp only [List.setIfInBounds_toArray, List.set_cons_zero, List.set_cons_succ]
        refine wpAnyH_take (i := 10) (v := ?_) rfl (by kernel_rfl) (by kernel_rfl) (by kernel_rfl) (fun _ _ _ h => h) (Or.inl ⟨by rfl, fun V hV => ?_⟩) (by assumption) ?_
        rotate_left
        · go_simp
          try with_reducible rfl
        try simp only [Act.put, List.getElem_toArray, List.getElem_cons_zero, List.getElem_cons_succ, List.setIfInBounds_toArray, List.set_cons_zero, List.set_cons_succ]
        refine wpAnyH_done (by kernel_rfl) ?_ _
        have HS9 := hid hS
        clear hS a0 a1 b0 b1
        go_wp2
        go_ret
        have hfc := (HS9.out.cell (World.block_lt_of_cell? _ _ HF1.out)).trans HF1.out
        refine ⟨HRES.out, HN1.out.trans (Near.of_below HS9.out (fun k h1 h2 => by omega)), ⟨_, hfc, (HS9.out.frozen (World.block_lt_of_cell? _ _ HF1.out)).trans HF2.out⟩, fun Y hY => ⟨px, kx, cx, hfc, ?_⟩⟩
        rw [HRESX.out Y hY]
        exact HXX.out _ HS9.out
      refine AllReadyH.cons (o := _) rfl (fun K hK => ?_) AllReadyH.nil
      obtain ⟨V8, hV8⟩ : ∃ V8, V3.alloc (.cells #[.int .i64 0, .int .i64 0] 62) = V8 := ⟨_, rfl⟩
      have a0 : V8.cell? ⟨V3.heap.size, 0, none⟩ = some (.int .i64 0) := by rw [← hV8]; exact cell_box V3 _ 62 0 _ rfl
      have a1 : V8.cell? ⟨V3.heap.size, 1, none⟩ = some (.int .i64 0) := by rw [← hV8]; exact cell_box V3 _ 62 1 _ rfl
      have b0 : V8.frozen? ⟨V3.heap.size, 0, none⟩ = false := by rw [← hV8]; exact frozen_new V3 _ 62 0 rfl
      have b1 : V8.frozen? ⟨V3.heap.size, 1, none⟩ = false := by rw [← hV8]; exact frozen_new V3 _ 62 1 rfl
      have hb8 : Below V3.heap.size V3 V8 := by rw [← hV8]; exact (Below.refl _ _).alloc (Nat.le_refl _) _
      have hA0 : W1.heap.size ≤ V3.heap.size := hS.size
      go_simp
      refine hK.out _ _ (hS.trans (hb8.mono hS.size)) (fun hS => ?_)
      clear hK K
      try simp only [List.setIfInBounds_toArray, List.set_cons_zero, List.set_cons_succ]
      refine wpAnyH_ready (rs := [4]) (by kernel_rfl) (by simp) ?_
      refine AllReadyH.cons (o := _) rfl (fun K hK => ?_) AllReadyH.nil
      go_simp
      refine (bounds_share_any_st (shareL l) HR.out _ (hwork.below hb8) (HL.out _ hS) (HCS.out _ hS) (HXX.out _ hS) (hmap.below hb8) HN9.out (by omega) hk100 HSB.out HC1.out HC4.out HSM.out.1 HSM.out.2 (fun W hW x hx => HOF.out W (hS.trans (hW.below hS.size (fun k hk e => by omega))) x hx)).mono ?_
      rintro e V4 ⟨rfl, hn4⟩
      replace b0 := near_frozen (p := ⟨V3.heap.size, 0, none⟩) a0 b0 hn4 hA2
      replace b1 := near_frozen (p := ⟨V3.heap.size, 1, none⟩) a1 b1 hn4 hA2
      replace a0 := near_cell (p := ⟨V3.heap.size, 0, none⟩) a0 hn4 hA2
      replace a1 := near_cell (p := ⟨V3.heap.size, 1, none⟩) a1 hn4 hA2
      refine hK.out _ _ (hS.trans (hn4.below hS.size (fun k hk e => by omega))) (fun hS => ?_)
      clear hK K
      try simp only [List.setIfInBounds_toArray, List.set_cons_zero, List.set_cons_succ]
      refine wpAnyH_take (i := 5) (v := ?_) rfl (by kernel_rfl) (by kernel_rfl) (by kernel_rfl) (fun _ _ _ h => h) (Or.inl ⟨by rfl, fun V hV => ?_⟩) (by assumption) ?_
      rotate_left
      · go_simp
        try with_reducible rfl
      try simp only [Act.put, List.getElem_toArray, List.getElem_cons_zero, List.getElem_cons_succ, List.setIfInBounds_toArray, List.set_cons_zero, List.set_cons_succ]
      refine wpAnyH_take (i := 6) (v := ?_) rfl (by kernel_rfl) (by kernel_rfl) (by kernel_rfl) (fun _ _ _ h => h) (Or.inl ⟨by rfl, fun V hV => ?_⟩) (by assumption) ?_
      rotate_left
      · go_simp
        try with_reducible rfl
      try simp only [Act.put, List.getElem_toArray, List.getElem_cons_zero, List.getElem_cons_succ, List.setIfInBounds_toArray, List.set_cons_zero, List.set_cons_succ]
      refine wpAnyH_take (i := 7) (v := ?_) rfl (by kernel_rfl) (by kernel_rfl) (by kernel_rfl) (fun _ _ _ h => h) (Or.inl ⟨by rfl, fun V hV => ?_⟩) (by assumption) ?_
      rotate_left
      · go_simp
        try with_reducible rfl
      try simp only [Act.put, List.getElem_toArray, List.getElem_cons_zero, List.getElem_cons_succ, List.setIfInBounds_toArray, List.set_cons_zero, List.set_cons_succ]
      refine wpAnyH_ready (rs := [9]) (by kernel_rfl) (by simp) ?_
      refine AllReadyH.cons (o := _) rfl (fun K hK => ?_) AllReadyH.nil
      go_simp
      refine hK.out _ _ ((hS.setCell (p := ⟨V3.heap.size, 0, none⟩) hA0 _).setCell (p := ⟨V3.heap.size, 1, none⟩) hA0 _) (fun hS => ?_)
      clear hK K
      try simp only [List.setIfInBounds_toArray, List.set_cons_zero, List.set_cons_succ]
      refine wpAnyH_take (i := 10) (v := ?_) rfl (by kernel_rfl) (by kernel_rfl) (by kernel_rfl) (fun _ _ _ h => h) (Or.inl ⟨by rfl, fun V hV => ?_⟩) (by assumption) ?_
      rotate_left
      · go_simp
        try with_reducible rfl
      try simp only [Act.put, List.getElem_toArray, List.getElem_cons_zero, List.getElem_cons_succ, List.setIfInBounds_toArray, List.set_cons_zero, List.set_cons_succ]
      refine wpAnyH_done (by kernel_rfl) ?_ _
      have HS9 := hid hS
      clear hS a0 a1 b0 b1
      go_wp2
      go_ret
      have hfc := (HS9.out.cell (World.block_lt_of_cell? _ _ HF1.out)).trans HF1.out
      refine ⟨HRES.out, HN1.out.trans (Near.of_below HS9.out (fun k h1 h2 => by omega)), ⟨_, hfc, (HS9.out.frozen (World.block_lt_of_cell? _ _ HF1.out)).trans HF2.out⟩, fun Y hY => ⟨px, kx, cx, hfc, ?_⟩⟩
      rw [HRESX.out Y hY]
      exact HXX.out _ HS9.out
    refine AllReadyH.cons (o := _) rfl (fun K hK => ?_) AllReadyH.nil
    obtain ⟨V8, hV8⟩ : ∃ V8, V0.alloc (.cells #[.int .i64 0, .int .i64 0] 62) = V8 := ⟨_, rfl⟩
    have a0 : V8.cell? ⟨V0.heap.size, 0, none⟩ = some (.int .i64 0) := by rw [← hV8]; exact cell_box V0 _ 62 0 _ rfl
    have a1 : V8.cell? ⟨V0.heap.size, 1, none⟩ = some (.int .i64 0) := by rw [← hV8]; exact cell_box V0 _ 62 1 _ rfl
    have b0 : V8.frozen? ⟨V0.heap.size, 0, none⟩ = false := by rw [← hV8]; exact frozen_new V0 _ 62 0 rfl
    have b1 : V8.frozen? ⟨V0.heap.size, 1, none⟩ = false := by rw [← hV8]; exact frozen_new V0 _ 62 1 rfl
    have hb8 : Below V0.heap.size V0 V8 := by rw [← hV8]; exact (Below.refl _ _).alloc (Nat.le_refl _) _
    have hA0 : W1.heap.size ≤ V0.heap.size := hS.size
    go_simp
    refine hK.out _ _ (hS.trans (hb8.mono hS.size)) (fun hS => ?_)
    clear hK K
    try simp only [List.setIfInBounds_toArray, List.set_cons_zero, List.set_cons_succ]
    refine wpAnyH_ready (rs := [3]) (by kernel_rfl) (by simp) ?_
    refine AllReadyH.cons (o := _) rfl (fun K hK => ?_) AllReadyH.nil
    go_simp
    have hX := hS.size
    refine (work_any _ _ _ _ _ _ _ _ _ _ _ _ _).mono ?_
    rintro e V3 ⟨rfl, hwork, hmap, hz, hb⟩
    have hS2 := hS.trans (hb.mono hS.size)
    have hX2 : W1.heap.size ≤ V8.heap.size + 1 := by omega
    have hnb : Near (fun _ => False) V8 V3 := Near.of_below hb (fun k h1 h2 => by omega)
    have hlt8 := World.block_lt_of_cell? _ ⟨V0.heap.size, 0, none⟩ a0
    have hAne : V0.heap.size ≠ V8.heap.size + 1 := by have : V0.heap.size < V8.heap.size := hlt8; omega
    replace b0 := near_frozen (p := ⟨V0.heap.size, 0, none⟩) a0 b0 hnb (fun h => h)
    replace b1 := near_frozen (p := ⟨V0.heap.size, 1, none⟩) a1 b1 hnb (fun h => h)
    replace a0 := near_cell (p := ⟨V0.heap.size, 0, none⟩) a0 hnb (fun h => h)
    replace a1 := near_cell (p := ⟨V0.heap.size, 1, none⟩) a1 hnb (fun h => h)
    clear hz
    refine hK.out _ _ (hS2) (fun hS => ?_)
    clear hK K
    try simp only [List.setIfInBounds_toArray, List.set_cons_zero, List.set_cons_succ]
    refine wpAnyH_ready (rs := [4]) (by kernel_rfl) (by simp) ?_
    refine AllReadyH.cons (o := _) rfl (fun K hK => ?_) AllReadyH.nil
    go_simp
    refine (bounds_share_any_st (shareL l) HR.out _ (hwork.below (Below.refl _ _)) (HL.out _ hS) (HCS.out _ hS) (HXX.out _ hS) (hmap.below (Below.refl _ _)) HN9.out (by omega) hk100 HSB.out HC1.out HC4.out HSM.out.1 HSM.out.2 (fun W hW x hx => HOF.out W (hS.trans (hW.below hS.size (fun k hk e => by omega))) x hx)).mono ?_
    rintro e V4 ⟨rfl, hn4⟩
    replace b0 := near_frozen (p := ⟨V0.heap.size, 0, none⟩) a0 b0 hn4 hAne
    replace b1 := near_frozen (p := ⟨V0.heap.size, 1, none⟩) a1 b1 hn4 hAne
    replace a0 := near_cell (p := ⟨V0.heap.size, 0, none⟩) a0 hn4 hAne
    replace a1 := near_cell (p := ⟨V0.heap.size, 1, none⟩) a1 hn4 hAne
    refine hK.out _ _ (hS.trans (hn4.below hS.size (fun k hk e => by omega))) (fun hS => ?_)
    clear hK K
    try simp only [List.setIfInBounds_toArray, List.set_cons_zero, List.set_cons_succ]
    refine wpAnyH_take (i := 5) (v := ?_) rfl (by kernel_rfl) (by kernel_rfl) (by kernel_rfl) (fun _ _ _ h => h) (Or.inl ⟨by rfl, fun V hV => ?_⟩) (by assumption) ?_
    rotate_left
    · go_simp
      try with_reducible rfl
    try simp only [Act.put, List.getElem_toArray, List.getElem_cons_zero, List.getElem_cons_succ, List.setIfInBounds_toArray, List.set_cons_zero, List.set_cons_succ]
    refine wpAnyH_take (i := 6) (v := ?_) rfl (by kernel_rfl) (by kernel_rfl) (by kernel_rfl) (fun _ _ _ h => h) (Or.inl ⟨by rfl, fun V hV => ?_⟩) (by assumption) ?_
    rotate_left
    · go_simp
      try with_reducible rfl
    try simp only [Act.put, List.getElem_toArray, List.getElem_cons_zero, List.getElem_cons_succ, List.setIfInBounds_toArray, List.set_cons_zero, List.set_cons_succ]
    refine wpAnyH_take (i := 7) (v := ?_) rfl (by kernel_rfl) (by kernel_rfl) (by kernel_rfl) (fun _ _ _ h => h) (Or.inl ⟨by rfl, fun V hV => ?_⟩) (by assumption) ?_
    rotate_left
    · go_simp
      try with_reducible rfl
    try simp only [Act.put, List.getElem_toArray, List.getElem_cons_zero, List.getElem_cons_succ, List.setIfInBounds_toArray, List.set_cons_zero, List.set_cons_succ]
    refine wpAnyH_ready (rs := [9]) (by kernel_rfl) (by simp) ?_
    refine AllReadyH.cons (o := _) rfl (fun K hK => ?_) AllReadyH.nil
    go_simp
    refine hK.out _ _ ((hS.setCell (p := ⟨V0.heap.size, 0, none⟩) hA0 _).setCell (p := ⟨V0.heap.size, 1, none⟩) hA0 _) (fun hS => ?_)
    clear hK K
    try simp only [List.setIfInBounds_toArray, List.set_cons_zero, List.set_cons_succ]
    refine wpAnyH_take (i := 10) (v := ?_) rfl (by kernel_rfl) (by kernel_rfl) (by kernel_rfl) (fun _ _ _ h => h) (Or.inl ⟨by rfl, fun V hV => ?_⟩) (by assumption) ?_
    rotate_left
    · go_simp
      try with_reducible rfl
    try simp only [Act.put, List.getElem_toArray, List.getElem_cons_zero, List.getElem_cons_succ, List.setIfInBounds_toArray, List.set_cons_zero, List.set_cons_succ]
    refine wpAnyH_done (by kernel_rfl) ?_ _
    have HS9 := hid hS
    clear hS a0 a1 b0 b1
    go_wp2
    go_ret
    have hfc := (HS9.out.cell (World.block_lt_of_cell? _ _ HF1.out)).trans HF1.out
    refine ⟨HRES.out, HN1.out.trans (Near.of_below HS9.out (fun k h1 h2 => by omega)), ⟨_, hfc, (HS9.out.frozen (World.block_lt_of_cell? _ _ HF1.out)).trans HF2.out⟩, fun Y hY => ⟨px, kx, cx, hfc, ?_⟩⟩
    rw [HRESX.out Y hY]
    exact HXX.out _ HS9.out
  refine AllReadyH.cons (o := _) rfl (fun K hK => ?_) AllReadyH.nil
  obtain ⟨V8, hV8⟩ : ∃ V8, (W1.alloc (.cells #[.int .i64 0, .int .i64 0] 62)).drew = V8 := ⟨_, rfl⟩
  have a0 : V8.cell? ⟨W1.heap.size, 0, none⟩ = some (.int .i64 0) := by rw [← hV8]; exact cell_box W1 _ 62 0 _ rfl
  have a1 : V8.cell? ⟨W1.heap.size, 1, none⟩ = some (.int .i64 0) := by rw [← hV8]; exact cell_box W1 _ 62 1 _ rfl
  have b0 : V8.frozen? ⟨W1.heap.size, 0, none⟩ = false := by rw [← hV8]; exact frozen_new W1 _ 62 0 rfl
  have b1 : V8.frozen? ⟨W1.heap.size, 1, none⟩ = false := by rw [← hV8]; exact frozen_new W1 _ 62 1 rfl
  have hb8 : Below W1.heap.size W1 V8 := by rw [← hV8]; exact ((Below.refl _ _).alloc (Nat.le_refl _) _).drew
  have hA0 : W1.heap.size ≤ W1.heap.size := hS.size
  go_simp
  refine hK.out _ _ (hb8) (fun hS => ?_)
  clear hK K
  try simp only [List.setIfInBounds_toArray, List.set_cons_zero, List.set_cons_succ]
  refine wpAnyH_ready (rs := [0]) (by kernel_rfl) (by simp) ?_
  refine AllReadyH.cons (o := _) rfl (fun K hK => ?_) AllReadyH.nil
  go_simp
  refine (shareQ_any _).mono ?_
  rintro e V0 ⟨rfl, hb0⟩
  have hnb : Near (fun _ => False) V8 V0 := Near.of_below hb0 (fun k h1 h2 => by omega)
  replace b0 := near_frozen (p := ⟨W1.heap.size, 0, none⟩) a0 b0 hnb (fun h => h)
  replace b1 := near_frozen (p := ⟨W1.heap.size, 1, none⟩) a1 b1 hnb (fun h => h)
  replace a0 := near_cell (p := ⟨W1.heap.size, 0, none⟩) a0 hnb (fun h => h)
  replace a1 := near_cell (p := ⟨W1.heap.size, 1, none⟩) a1 hnb (fun h => h)
  refine hK.out _ _ (hS.trans (hb0.mono hS.size)) (fun hS => ?_)
  clear hK K
  try simp only [List.setIfInBounds_toArray, List.set_cons_zero]
  refine wpAnyH_ready (rs := [3]) (by kernel_rfl) (by simp) ?_
  refine AllReadyH.cons (o := _) rfl (fun K hK => ?_) AllReadyH.nil
  go_simp
  have hX := hS.size
  refine (work_any _ _ _ _ _ _ _ _ _ _ _ _ _).mono ?_
  rintro e V3 ⟨rfl, hwork, hmap, hz, hb⟩
  have hS2 := hS.trans (hb.mono hS.size)
  have hX2 : W1.heap.size ≤ V0.heap.size + 1 := by omega
  have hnb : Near (fun _ => False) V0 V3 := Near.of_below hb (fun k h1 h2 => by omega)
  have hlt8 := World.block_lt_of_cell? _ ⟨W1.heap.size, 0, none⟩ a0
  have hAne : W1.heap.size ≠ V0.heap.size + 1 := by have : W1.heap.size < V0.heap.size := hlt8; omega
  replace b0 := near_frozen (p := ⟨W1.heap.size, 0, none⟩) a0 b0 hnb (fun h => h)
  replace b1 := near_frozen (p := ⟨W1.heap.size, 1, none⟩) a1 b1 hnb (fun h => h)
  replace a0 := near_cell (p := ⟨W1.heap.size, 0, none⟩) a0 hnb (fun h => h)
  replace a1 := near_cell (p := ⟨W1.heap.size, 1, none⟩) a1 hnb (fun h => h)
  clear hz
  refine hK.out _ _ (hS2) (fun hS => ?_)
  clear hK K
  try simp only [List.setIfInBounds_toArray, List.set_cons_zero, List.set_cons_succ]
  refine wpAnyH_ready (rs := [4]) (by kernel_rfl) (by simp) ?_
  refine AllReadyH.cons (o := _) rfl (fun K hK => ?_) AllReadyH.nil
  go_simp
  refine (bounds_share_any_st (shareL l) HR.out _ (hwork.below (Below.refl _ _)) (HL.out _ hS) (HCS.out _ hS) (HXX.out _ hS) (hmap.below (Below.refl _ _)) HN9.out (by omega) hk100 HSB.out HC1.out HC4.out HSM.out.1 HSM.out.2 (fun W hW x hx => HOF.out W (hS.trans (hW.below hS.size (fun k hk e => by omega))) x hx)).mono ?_
  rintro e V4 ⟨rfl, hn4⟩
  replace b0 := near_frozen (p := ⟨W1.heap.size, 0, none⟩) a0 b0 hn4 hAne
  replace b1 := near_frozen (p := ⟨W1.heap.size, 1, none⟩) a1 b1 hn4 hAne
  replace a0 := near_cell (p := ⟨W1.heap.size, 0, none⟩) a0 hn4 hAne
  replace a1 := near_cell (p := ⟨W1.heap.size, 1, none⟩) a1 hn4 hAne
  refine hK.out _ _ (hS.trans (hn4.below hS.size (fun k hk e => by omega))) (fun hS => ?_)
  clear hK K
  try simp only [List.setIfInBounds_toArray, List.set_cons_zero, List.set_cons_succ]
  refine wpAnyH_take (i := 5) (v := ?_) rfl (by kernel_rfl) (by kernel_rfl) (by kernel_rfl) (fun _ _ _ h => h) (Or.inl ⟨by rfl, fun V hV => ?_⟩) (by assumption) ?_
  rotate_left
  · go_simp
    try with_reducible rfl
  try simp only [Act.put, List.getElem_toArray, List.getElem_cons_zero, List.getElem_cons_succ, List.setIfInBounds_toArray, List.set_cons_zero, List.set_cons_succ]
  refine wpAnyH_take (i := 6) (v := ?_) rfl (by kernel_rfl) (by kernel_rfl) (by kernel_rfl) (fun _ _ _ h => h) (Or.inl ⟨by rfl, fun V hV => ?_⟩) (by assumption) ?_
  rotate_left
  · go_simp
    try with_reducible rfl
  try simp only [Act.put, List.getElem_toArray, List.getElem_cons_zero, List.getElem_cons_succ, List.setIfInBounds_toArray, List.set_cons_zero, List.set_cons_succ]
  refine wpAnyH_take (i := 7) (v := ?_) rfl (by kernel_rfl) (by kernel_rfl) (by kernel_rfl) (fun _ _ _ h => h) (Or.inl ⟨by rfl, fun V hV => ?_⟩) (by assumption) ?_
  rotate_left
  · go_simp
    try with_reducible rfl
  try simp only [Act.put, List.getElem_toArray, List.getElem_cons_zero, List.getElem_cons_succ, List.setIfInBounds_toArray, List.set_cons_zero, List.set_cons_succ]
  refine wpAnyH_ready (rs := [9]) (by kernel_rfl) (by simp) ?_
  refine AllReadyH.cons (o := _) rfl (fun K hK => ?_) AllReadyH.nil
  go_simp
  refine hK.out _ _ ((hS.setCell (p := ⟨W1.heap.size, 0, none⟩) hA0 _).setCell (p := ⟨W1.heap.size, 1, none⟩) hA0 _) (fun hS => ?_)
  clear hK K
  try simp only [List.setIfInBounds_toArray, List.set_cons_zero, List.set_cons_succ]
  refine wpAnyH_take (i := 10) (v := ?_) rfl (by kernel_rfl) (by kernel_rfl) (by kernel_rfl) (fun _ _ _ h => h) (Or.inl ⟨by rfl, fun V hV => ?_⟩) (by assumption) ?_
  rotate_left
  · go_simp
    try with_reducible rfl
  try simp only [Act.put, List.getElem_toArray, List.getElem_cons_zero, List.getElem_cons_succ, List.setIfInBounds_toArray, List.set_cons_zero, List.set_cons_succ]
  refine wpAnyH_done (by kernel_rfl) ?_ _
  have HS9 := hid hS
  clear hS a0 a1 b0 b1
  go_wp2
  go_ret
  have hfc := (HS9.out.cell (World.block_lt_of_cell? _ _ HF1.out)).trans HF1.out
  refine ⟨HRES.out, HN1.out.trans (Near.of_below HS9.out (fun k h1 h2 => by omega)), ⟨_, hfc, (HS9.out.frozen (World.block_lt_of_cell? _ _ HF1.out)).trans HF2.out⟩, fun Y hY => ⟨px, kx, cx, hfc, ?_⟩⟩
  rw [HRESX.out Y hY]
  exact HXX.out _ HS9.out
end Go.Proofs.Ytlicijnaacdceaa
