/- ProveTruth of the program. -/
import Derived.Test.YtlicijnaacdceaaProP
import Derived.ChangeKeysEq
namespace Go.Proofs.Ytlicijnaacdceaa
open Go.RowKit
attribute [local go_sem] Oper.semAt_some

theorem genP_len (ok : Nat → Int → List Int → Bool) : ∀ (l : List Int) (k : Nat) (pre x : List Int), x ∈ genP ok l k pre → x.length = pre.length + l.length
  | [], _, pre, x, h => by simp [genP] at h; subst h; simp
  | s :: r, k, pre, x, h => by
    unfold genP at h
    obtain ⟨i, _, h2⟩ := List.mem_flatMap.1 h
    split at h2
    · have := genP_len ok r (k + 1) _ x h2
      simp at this ⊢; omega
    · cases h2

theorem Try.u3 : Try.prog.underlying 3 = some (.int .i64) := by kernel_rfl
theorem Try.i3 : ∃ i, Try.prog.info? 3 = some i := by
  have : (Try.prog.info? 3).isSome = true := by kernel_rfl
  exact Option.isSome_iff_exists.1 this
theorem part3 (xs : Array Value) (i : Nat) (v : Int) (h : xs[i]? = some (.int .i64 v)) (w : World) : (part 3 xs i).run Try.prog w = .ok (.int .i64 v) w := by
  simp [part, go_sem, h]

theorem eqItems_all (f g : Nat → Int) (xs ys : Array Value) (w : World) : ∀ (is : List Nat), (∀ i ∈ is, xs[i]? = some (.int .i64 (f i)) ∧ ys[i]? = some (.int .i64 (g i))) →
    (Op.eqItems 9999 3 1 xs ys is).run Try.prog w = .ok (is.all fun i => f i == g i) w
  | [], _ => by simp [Op.eqItems]
  | i :: is, h => by
    have h1 := h i (by simp)
    have ih := eqItems_all f g xs ys w is fun j hj => h j (by simp [hj])
    simp only [Op.eqItems, Sem.run_bind, Nat.mul_one, part3 _ _ _ h1.1, part3 _ _ _ h1.2, Result.andThen_ok, run_equalIn_int w 9998 3 .i64 .i64 _ _ Try.u3]
    cases hc : f i == g i
    · simp [hc]
    · simp [hc, ih]

theorem eq_hits (x y : List Int) (hx : x.length ≤ 9) (hl : x.length = y.length) (w : World) : (Op.equalIn 10000 116 (hitsV x) (hitsV y)).run Try.prog w = .ok (decide (x = y)) w := by
  obtain ⟨i3, hi3⟩ := Try.i3
  unfold hitsV
  rw [run_equalIn_array w 9999 (e := 3) (n := 9) _ _ (by kernel_rfl) hi3, Try.cells3]
  rw [eqItems_all (fun i => x[i]?.getD 0) (fun i => y[i]?.getD 0)]
  · have : ((List.range 9).all fun i => x[i]?.getD 0 == y[i]?.getD 0) = decide (x = y) := by
      rw [Bool.eq_iff_iff]
      simp only [List.all_eq_true, List.mem_range, beq_iff_eq, decide_eq_true_eq]
      constructor
      · intro h
        refine List.ext_getElem hl fun i h1 h2 => ?_
        have := h i (by omega)
        simpa [h1, h2] using this
      · rintro rfl _ _; rfl
    rw [this]
  · intro i hi
    simp only [List.mem_range] at hi
    match i, hi with
    | 0, _ | 1, _ | 2, _ | 3, _ | 4, _ | 5, _ | 6, _ | 7, _ | 8, _ => exact ⟨rfl, rfl⟩
theorem frozen_new (w : World) (cs : Array Value) (T : TypeId) (k : Nat) (_h : (cs[k]?).isSome = true) : (w.alloc (.cells cs T)).frozen? ⟨w.heap.size, k, none⟩ = false := by
  have := heap_alloc_new w (.cells cs T)
  simp only [World.frozen?]
  rw [this]
  rfl
theorem Boxed2.fz2 {w : World} {cs ds : Array Value} {T U : TypeId} {W : World} (h : Boxed2 w cs T ds U W) (k : Nat) (hk : (ds[k]?).isSome = true) : W.frozen? ⟨w.heap.size + 1, k, none⟩ = false := by
  have := frozen_new (w.alloc (.cells cs T)) ds U k hk
  rw [World.size_alloc] at this
  exact (Below.frozen h (p := ⟨w.heap.size + 1, k, none⟩) (by simp)).trans this

/-- The survey at work, once its box is made too. -/
theorem surv_made {W w4 : World} {r cc : Int} {p : Option Addr} {n c : Nat} {l : List Int} {sm : Int} {q : Option Addr} {m d : Nat} {cs : List Cnt} {po : Option Addr} {no co : Nat} {outl : List Int}
    (hl : IntsAt W p n l) (hcs : CntsAt W q m cs) (ho : IntsAt W po no outl) (hwork : WorkAt w4 (W.heap.size + 2) r cc p n c sm q m d po no co (W.heap.size + 1)) (hmap : MapIs w4 145 (W.heap.size + 1) 0 (fun _ => none)) (hz : w4.heap.size = W.heap.size + 3) (hb : Below W.heap.size W w4) :
    SurvAt (w4.alloc (.cells #[.pointer (some ⟨W.heap.size + 2, 0, none⟩)] 112)) (W.heap.size + 2) (W.heap.size + 3) (W.heap.size + 1) r cc p n c l sm q m d cs po no co outl 0 := by
  have hb4 : Below w4.heap.size w4 (w4.alloc (.cells #[.pointer (some ⟨W.heap.size + 2, 0, none⟩)] 112)) := (Below.refl _ _).alloc (Nat.le_refl _) _
  have hb5 := hb.trans (hb4.mono hb.size)
  refine ⟨hwork.below hb4, ?_, hl.below hb5, hcs.below hb5, ho.below hb5, _, hmap.below hb4, fun a b v h => by cases h⟩
  have := cell_box w4 #[.pointer (some ⟨W.heap.size + 2, 0, none⟩)] 112 0 _ rfl
  rwa [hz] at this

theorem rd_out {w : World} {p : Option Addr} {n : Nat} {l : List Int} {q : Option Addr} {m : Nat} {cs : List Cnt} {po : Option Addr} {no : Nat} {outl : List Int} {b bv bm k : Nat}
    (hl : IntsAt w p n l) (hcs : CntsAt w q m cs) (ho : IntsAt w po no outl) (h : RdOf b bv bm p n q m po no k) : k < w.heap.size ∨ k = b ∨ k = bv ∨ k = bm := by
  rcases h with rfl | rfl | rfl | ⟨a, ha, h0, rfl⟩ | ⟨a, ha, h0, rfl⟩ | ⟨a, ha, h0, rfl⟩
  · exact .inr (.inl rfl)
  · exact .inr (.inr (.inl rfl))
  · exact .inr (.inr (.inr rfl))
  · obtain ⟨b1, o1, e, hlt, _⟩ := hl.at h0
    rw [ha] at e; cases e; exact .inl hlt
  · obtain ⟨x, _, b1, o1, e, hlt, _⟩ := hcs.at h0
    rw [ha] at e; cases e; exact .inl hlt
  · obtain ⟨b1, o1, e, hlt, _⟩ := ho.at h0
    rw [ha] at e; cases e; exact .inl hlt

theorem IntsAt.nil (w : World) : IntsAt w none 0 [] := ⟨rfl, fun i hi => by omega⟩

theorem HitsAt.near {S : Nat → Prop} {W1 W2 : World} {b : Nat} {h : List Int} (hh : HitsAt W1 b h) (hn : Near S W1 W2) (hs : ¬ S b) : HitsAt W2 b h := fun i hi => (hn.cell (p := ⟨b, i, none⟩) hh.lt hs).trans (hh i hi)
theorem near_cell {S : Nat → Prop} {W1 W2 : World} {p : Addr} {v : Value} (h : W1.cell? p = some v) (hn : Near S W1 W2) (hs : ¬ S p.block) : W2.cell? p = some v := (hn.cell (World.block_lt_of_cell? _ _ h) hs).trans h
theorem near_frozen {S : Nat → Prop} {W1 W2 : World} {p : Addr} {v : Value} (h : W1.cell? p = some v) (hf : W1.frozen? p = false) (hn : Near S W1 W2) (hs : ¬ S p.block) : W2.frozen? p = false := (hn.frozen (World.block_lt_of_cell? _ _ h) hs).trans hf

set_option maxRecDepth 40000 in
set_option maxHeartbeats 4000000 in
theorem proveTruth_any (r cc : Int) (p : Option Addr) (n c : Nat) (l : List Int) (sm : Int) (q : Option Addr) (m d : Nat) (cs : List Cnt) (po : Option Addr) (no co : Nat) (th : List Int) (w : World) (hl : IntsAt w p n l) (hcs : CntsAt w q m cs) (ht : IntsAt w po no th) (hn : n ≤ 100) (hm : m ≤ 100) (hno : no ≤ 100) :
    Calls Try.prog 51 #[.agg #[.int .i64 r, .int .i64 cc, .slice p n c, .int .i64 sm, .slice q m d], .slice po no co] w fun e w' => e = .returned (.bool (decide (faultL r cc l sm cs = 0) && (isListedB l th && decide (th ∈ genP (okP cs [] cc sm) l 0 [])))) ∧ Below w.heap.size w w' := by
  refine (callsIn_wide (n := 9)).1 ?_
  have HC := hid (fun W (hW : Below w.heap.size w W) => callsIn_wide (n := 8).2 (checkSurvey_any r cc p n c l sm q m d cs W (hl.below hW) (hcs.below hW) hn hm))
  have HL := hid hl
  have HT := hid ht
  have HCS := hid hcs
  have HDL := hid (show ∀ W, Below w.heap.size w W → n ≤ 9 → CallsIn Fence.wide 8 Try.prog 85 #[.agg #[.int .i64 r, .int .i64 cc, .slice p n c, .int .i64 sm, .slice q m d], .slice po no co] W (RetHits W l th) from fun W hW hn9 => callsIn_wide.2 (listed_any r cc p n c l sm q m d po no co th W (hl.below hW) hn9 (ht.below hW) (by omega)))
  clear hl hcs ht
  by_cases hf : faultL r cc l sm cs = 0
  · have hfb : (faultL r cc l sm cs == 0) = true := by simp [hf]
    have HFF := hid (field_facts (fault0 hf).2.1)
    have HSM : Hid (0 ≤ sm ∧ sm ≤ 9) := by
      show _ ∧ _
      have := (fault0 hf).2.2.1; simpa [inB] using this
    have HN9 : Hid (n ≤ 9) := by have := HFF.out.2.2.2.2.2.2.1; have := HL.out.1; show n ≤ 9; omega
    rw [hf] at HC ⊢
    refine callsIn_of_wp_marks Try.func51 rfl trivial ?_ rfl
    simp only [Try.ntmps51, List.size_toArray, List.length_cons, List.length_nil, Nat.reduceAdd, Nat.reduceSub, Array.replicate_succ, Array.replicate_zero, List.push_toArray, List.append_toArray, List.nil_append, List.cons_append]
    gi_wp2
    refine ⟨trivial, ?_⟩
    gi_at_call 52
    refine (HC.out _ ?_).mono ?_
    · exact ((Below.refl _ _).alloc (Nat.le_refl _) _).alloc (by simp) _
    rintro e w1 ⟨rfl, hb⟩
    have HB1 : Hid (Boxed2 w #[.int .i64 r, .int .i64 cc, .slice p n c, .int .i64 sm, .slice q m d] 36 #[.bool false] 4 w1) := hb.mono (by simp)
    clear hb
    have hs0 := HB1.out.cell1 0 (v := .int .i64 r) rfl
    have hs1 := HB1.out.cell1 1 (v := .int .i64 cc) rfl
    have hs2 := HB1.out.cell1 2 (v := .slice p n c) rfl
    have hs3 := HB1.out.cell1 3 (v := .int .i64 sm) rfl
    have hs4 := HB1.out.cell1 4 (v := .slice q m d) rfl
    gi_wp2
    refine ⟨trivial, ?_⟩
    gi_at_call 85
    refine (HDL.out _ HB1.out.below HN9.out).mono ?_
    rintro e w2 ⟨h', rfl, hh', hb2⟩
    have HH := hid hh'
    obtain ⟨W3, hW3⟩ : ∃ W3, w2.alloc (.cells #[.int .i64 (h'[0]?.getD 0), .int .i64 (h'[1]?.getD 0), .int .i64 (h'[2]?.getD 0), .int .i64 (h'[3]?.getD 0), .int .i64 (h'[4]?.getD 0), .int .i64 (h'[5]?.getD 0), .int .i64 (h'[6]?.getD 0), .int .i64 (h'[7]?.getD 0), .int .i64 (h'[8]?.getD 0)] 116) = W3 := ⟨_, rfl⟩
    have HB3 : Hid (Boxed2 w #[.int .i64 r, .int .i64 cc, .slice p n c, .int .i64 sm, .slice q m d] 36 #[.bool false] 4 W3) := by rw [← hW3]; exact (HB1.out.step (hb2.mono HB1.out.size)).alloc _
    have HQ : Hid (HitsAt W3 w2.heap.size h') := by rw [← hW3]; exact hitsAt_box w2 h' 116
    have HZ : Hid (W3.heap.size = w2.heap.size + 1) := by rw [← hW3]; exact World.size_alloc _ _
    have HS2 : Hid (w.heap.size + 2 ≤ w2.heap.size) := Nat.le_trans HB1.out.size hb2.size
    clear hb2 hh' HB1 hs0 hs1 hs2 hs3 hs4 HDL HC
    have hs0 := HB3.out.cell1 0 (v := .int .i64 r) rfl
    have hs1 := HB3.out.cell1 1 (v := .int .i64 cc) rfl
    have hs2 := HB3.out.cell1 2 (v := .slice p n c) rfl
    have hs3 := HB3.out.cell1 3 (v := .int .i64 sm) rfl
    have hs4 := HB3.out.cell1 4 (v := .slice q m d) rfl
    have hr0 := HB3.out.cell2 0 (v := .bool false) rfl
    have hr1 := HB3.out.fz2 0 rfl
    unfold hitsV
    cases hL : isListedB l th
    · gi_wp2
      refine ⟨.bool false, ?_, by rw [hL, Bool.false_and, Bool.and_false], ?_⟩
      · have hq := World.cell?_setCell_same' W3 ⟨w.heap.size + 1, 0, none⟩ (.bool false) (by rw [hr0]; rfl)
        simp [results, Try.f51, go_sem, hq]
      · exact HB3.out.below.setCell (by show w.heap.size ≤ w.heap.size + 1; omega) _
    · gi_wp2
      refine ⟨trivial, ?_⟩
      gi_at_call 72
      refine ((callsIn_wide (n := 8)).2 (work_any _ _ _ _ _ _ _ _ _ _ _ _ _)).mono ?_
      rintro e w4 ⟨rfl, hwork, hmap, hz4, hb4⟩
      have HSV : Hid (SurvAt (w4.alloc (.cells #[.pointer (some ⟨W3.heap.size + 2, 0, none⟩)] 112)) (W3.heap.size + 2) (W3.heap.size + 3) (W3.heap.size + 1) r cc p n c l sm q m d cs none 0 0 [] 0) :=
        surv_made (HL.out.below HB3.out.below) (HCS.out.below HB3.out.below) (IntsAt.nil _) hwork hmap hz4 hb4
      have HZ4 := hid hz4
      have HB4 := hid hb4
      clear hwork hmap hb4 hs0 hs1 hs2 hs3 hs4
      gi_wp2
      refine ⟨trivial, ?_⟩
      gi_at_call 73
      refine ((callsIn_wide (n := 8)).2 (truthsF_any _ _)).mono ?_
      rintro e w5 ⟨rfl, rfl⟩
      gi_wp2
      have h' := HH.out hL
      subst h'
      obtain ⟨w5, hw5⟩ : ∃ w5, w4.alloc (.cells #[.pointer (some ⟨W3.heap.size + 2, 0, none⟩)] 112) = w5 := ⟨_, rfl⟩
      rw [hw5]
      rw [hw5] at HSV
      have hb5 : Below W3.heap.size W3 w5 := by rw [← hw5]; exact HB4.out.alloc (by have := HZ4.out; omega) _
      have hsz5 : w5.heap.size = W3.heap.size + 4 := by rw [← hw5, World.size_alloc, HZ4.out]
      have hz3 := HZ.out
      have hs2 := HS2.out
      refine wpIn_rangeFunc_near rfl (by omega) (gf := 95) (lb := #[.pointer (some ⟨W3.heap.size + 3, 0, none⟩)]) rfl trivial (enters_of Try.func95 (by kernel_rfl) rfl)
        (truths_gives _ _ _ _ _ _ _ _ _ _ _ _ _ _ _ _ _ _ HL.out.1 HN9.out (by omega) (by omega) HFF.out.2.2.2.2.2.2.2 HFF.out.2.2.1 HFF.out.2.2.2.1 HSM.out.1 HSM.out.2 _ _ HSV.out) (Below.refl _ _)
        (fun k hk => by rcases rd_out HL.out HCS.out (IntsAt.nil w) hk with h | h | h | h <;> omega) (fun k hk => by omega)
        (fun k => k = w.heap.size + 1) (fun k hk => ⟨by omega, fun hr => by rcases rd_out HL.out HCS.out (IntsAt.nil w) hr with h | h | h | h <;> omega⟩)
        (fun pre W => h' ∉ pre ∧ Below w.heap.size w W ∧ HitsAt W w2.heap.size h' ∧ W.cell? ⟨w.heap.size + 1, 0, none⟩ = some (.bool false) ∧ W.frozen? ⟨w.heap.size + 1, 0, none⟩ = false)
        (fun pre W => h' ∈ pre ∧ Below w.heap.size w W ∧ W.cell? ⟨w.heap.size + 1, 0, none⟩ = some (.bool true))
        (fun pre W1 W2 h hn => ⟨h.1, h.2.1.trans (hn.below h.2.1.size (fun k hk => by omega)), h.2.2.1.near hn (by omega), near_cell h.2.2.2.1 hn (by show ¬ (w.heap.size + 1 = _ ∨ _ ≤ w.heap.size + 1); omega), near_frozen h.2.2.2.1 h.2.2.2.2 hn (by show ¬ (w.heap.size + 1 = _ ∨ _ ≤ w.heap.size + 1); omega)⟩)
        (fun pre W1 W2 h hn => ⟨h.1, h.2.1.trans (hn.below h.2.1.size (fun k hk => by omega)), near_cell h.2.2 hn (by show ¬ (w.heap.size + 1 = _ ∨ _ ≤ w.heap.size + 1); omega)⟩)
        ⟨by simp, HB3.out.below.trans (hb5.mono (Nat.le_trans (by omega) (Nat.le_of_eq rfl))), fun i hi => (hb5.cell (p := ⟨w2.heap.size, i, none⟩) (by show w2.heap.size < _; omega)).trans (HQ.out i hi), (hb5.cell (p := ⟨w.heap.size + 1, 0, none⟩) (by show w.heap.size + 1 < _; omega)).trans hr0, (hb5.frozen (p := ⟨w.heap.size + 1, 0, none⟩) (by show w.heap.size + 1 < _; omega)).trans hr1⟩ ?round ?done ?stop
      case round =>
        rintro pre x rest W hall hsz ⟨hnm, hbW, hqW, hcW, hfW⟩
        have HB := hid hbW
        have HQW := hid hqW
        have HSZ := hid hsz
        have HALL := hid hall
        have HNM := hid hnm
        have hq0 := hcW
        have hs5 : Hid (w5.heap.size = w2.heap.size + 5) := by show _ = _; omega
        have hxl : x.length = h'.length := by
          have h1 := genP_len _ _ _ _ x (by rw [hall]; simp : x ∈ genP (okP cs [] cc sm) l 0 [])
          have h2 := (listed_bd hL HFF.out.2.2.2.2.2.2.2).1
          simp at h1; omega
        have hx9 : x.length ≤ 9 := by
          have h2 := (listed_bd hL HFF.out.2.2.2.2.2.2.2).1
          have := HFF.out.2.2.2.2.2.2.1; omega
        clear hb5 hsz5 hz3 hs2 hall hsz hnm hbW hqW hr0 hr1
        unfold hitsV
        gi_wp2
        refine ⟨(Near.refl _ _).alloc _, fun W2 hn2 => ?_⟩
        have hn3 : Near (fun k => k = w5.heap.size + 1) W W2 := ((Near.refl _ _).alloc _).trans hn2
        have HB2 : Hid (Below w.heap.size w W2) := HB.out.trans (hn3.below HB.out.size (fun k hk => by have := hs5.out; have := HS2.out; omega))
        have hx := (hitsAt_box W x 116).near hn2 (by have := HSZ.out; omega)
        have hy := HQW.out.near hn3 (by have := hs5.out; have := HS2.out; omega)
        have hr0 := near_cell hq0 hn3 (by have := hs5.out; have := HS2.out; show w.heap.size + 1 ≠ _; omega)
        have hr1 := near_frozen hq0 hfW hn3 (by have := hs5.out; have := HS2.out; show w.heap.size + 1 ≠ _; omega)
        have x0 := hx 0 (by omega)
        have x1 := hx 1 (by omega)
        have x2 := hx 2 (by omega)
        have x3 := hx 3 (by omega)
        have x4 := hx 4 (by omega)
        have x5 := hx 5 (by omega)
        have x6 := hx 6 (by omega)
        have x7 := hx 7 (by omega)
        have x8 := hx 8 (by omega)
        have y0 := hy 0 (by omega)
        have y1 := hy 1 (by omega)
        have y2 := hy 2 (by omega)
        have y3 := hy 3 (by omega)
        have y4 := hy 4 (by omega)
        have y5 := hy 5 (by omega)
        have y6 := hy 6 (by omega)
        have y7 := hy 7 (by omega)
        have y8 := hy 8 (by omega)
        have HY := hid hy
        have heq := eq_hits x h' hx9 hxl W2
        unfold hitsV at heq
        clear hx hy hn2 hn3 hq0 hfW hxl hx9
        by_cases hxe : x = h'
        · rw [decide_eq_true hxe] at heq
          have HXE := hid hxe
          clear hxe
          gi_wp2
          refine ⟨(Near.refl (fun k => k = w.heap.size + 1) W2).setCell (p := ⟨w.heap.size + 1, 0, none⟩) (fun _ => rfl) _, by simp [HXE.out], HB2.out.setCell (by show w.heap.size ≤ w.heap.size + 1; omega) _, ?_⟩
          exact World.cell?_setCell_same' _ _ _ (by rw [hr0]; rfl)
        · rw [decide_eq_false hxe] at heq
          gi_wp2
          exact ⟨Near.refl _ _, by simpa [Ne.symm hxe] using HNM.out, HB2.out, HY.out, hr0, hr1⟩
      case done =>
        rintro W ⟨hnm, hbW, hqW, hcW, hfW⟩ hK hsz
        have HNM := hid hnm
        have hs5 : Hid (w5.heap.size = w2.heap.size + 5) := by show _ = _; omega
        have hs3 : Hid (w.heap.size + 2 ≤ w2.heap.size) := hs2
        clear hnm hqW hsz5 hz3 hs2 hsz
        gi_wp2
        have hs5 := hs5.out
        have hs3 := hs3.out
        have hK' : (W.setCell ⟨w.heap.size + 1, 0, none⟩ (.bool false)).heap[w5.heap.size]? = some (.deferred (some [])) := (Below.heap_setCell _ _ _ _ (by show _ ≠ w.heap.size + 1; omega)).trans hK
        refine ⟨by simp, .inl ⟨_, _, rfl, run_takeDeferred hK', ?_⟩⟩
        have hc5 : ((W.setCell ⟨w.heap.size + 1, 0, none⟩ (.bool false)).putObj w5.heap.size (.deferred none)).cell? ⟨w.heap.size + 1, 0, none⟩ = some (.bool false) :=
          near_cell (World.cell?_setCell_same' W ⟨w.heap.size + 1, 0, none⟩ (.bool false) (by rw [hcW]; rfl)) (Near.putObj _ _) (by show w.heap.size + 1 ≠ _; omega)
        refine ⟨.bool false, ?_, by simp [HNM.out], ?_⟩
        · simp [results, Try.f51, go_sem, hc5]
        · exact (hbW.setCell (by show w.heap.size ≤ w.heap.size + 1; omega) _).trans ((Near.putObj _ _).below (by simp [World.setCell]; exact hbW.size) (fun k hk => by omega))
      case stop =>
        rintro pre rest W hall ⟨hm1, hbW, hcW⟩ hK hsz
        have HM1 := hid hm1
        have HAL := hid hall
        have hs5 : Hid (w5.heap.size = w2.heap.size + 5) := by show _ = _; omega
        have hs3 : Hid (w.heap.size + 2 ≤ w2.heap.size) := hs2
        clear hm1 hall hsz5 hz3 hs2 hsz
        gi_wp2
        have hs5 := hs5.out
        have hs3 := hs3.out
        refine ⟨by simp, .inl ⟨_, _, rfl, run_takeDeferred hK, ?_⟩⟩
        have hc5 : (W.putObj w5.heap.size (.deferred none)).cell? ⟨w.heap.size + 1, 0, none⟩ = some (.bool true) :=
          near_cell hcW (Near.putObj _ _) (by show w.heap.size + 1 ≠ _; omega)
        have hin : h' ∈ genP (okP cs [] cc sm) l 0 [] := by rw [← HAL.out]; exact List.mem_append.2 (.inl HM1.out)
        refine ⟨.bool true, ?_, by simp [hin], ?_⟩
        · simp [results, Try.f51, go_sem, hc5]
        · exact hbW.trans ((Near.putObj _ _).below hbW.size (fun k hk => by omega))
  · have hfb : (faultL r cc l sm cs == 0) = false := by simp [hf]
    have HF := hid hf
    generalize faultL r cc l sm cs = fl at *
    refine callsIn_of_wp_marks Try.func51 rfl trivial ?_ rfl
    simp only [Try.ntmps51, List.size_toArray, List.length_cons, List.length_nil, Nat.reduceAdd, Nat.reduceSub, Array.replicate_succ, Array.replicate_zero, List.push_toArray, List.append_toArray, List.nil_append, List.cons_append]
    gi_wp2
    refine ⟨trivial, ?_⟩
    gi_at_call 52
    refine (HC.out _ ?_).mono ?_
    · exact ((Below.refl _ _).alloc (Nat.le_refl _) _).alloc (by simp) _
    rintro e w1 ⟨rfl, hb⟩
    have HB1 : Hid (Boxed2 w #[.int .i64 r, .int .i64 cc, .slice p n c, .int .i64 sm, .slice q m d] 36 #[.bool false] 4 w1) := hb.mono (by simp)
    clear hb hf
    have hr0 := HB1.out.cell2 0 (v := .bool false) rfl
    have hr1 := HB1.out.fz2 0 rfl
    gi_wp2
    refine ⟨.bool false, ?_, by rw [decide_eq_false HF.out, Bool.false_and], ?_⟩
    · have hq := World.cell?_setCell_same' w1 ⟨w.heap.size + 1, 0, none⟩ (.bool false) (by rw [hr0]; rfl)
      simp [results, Try.f51, go_sem, hq]
    · exact HB1.out.below.setCell (by show w.heap.size ≤ w.heap.size + 1; omega) _
end Go.Proofs.Ytlicijnaacdceaa
