/- Package treaty: the search for the smallest set of reports. No condition but short lists. -/
import Derived.Test.YtaioobhblfnlaaaP14
import Derived.Deep.AppendLies
namespace Go.Proofs.Ytaioobhblfnlaaa
open Go.RowKit

/-- A cell that can be written. -/
def Free (W : World) (b : Nat) : Prop := ∃ q k d, W.cell? ⟨b, 0, none⟩ = some (.slice q k d) ∧ W.frozen? ⟨b, 0, none⟩ = false

theorem Free.below {W W' : World} {b : Nat} (h : Free W b) (hb : Below W.heap.size W W') : Free W' b := by
  obtain ⟨q, k, d, h1, h2⟩ := h
  have hlt := World.block_lt_of_cell? _ _ h1
  exact ⟨q, k, d, (hb.cell hlt).trans h1, (hb.frozen hlt).trans h2⟩

theorem Free.lt {W : World} {b : Nat} (h : Free W b) : b < W.heap.size := by
  obtain ⟨_, _, _, h1, _⟩ := h
  exact World.block_lt_of_cell? _ _ h1

theorem near_cell {S : Nat → Prop} {W W' : World} {b o : Nat} {v : Value} (h : W.cell? ⟨b, o, none⟩ = some v) (hn : Near S W W') (hS : ¬ S b) : W'.cell? ⟨b, o, none⟩ = some v := (hn.cell (World.block_lt_of_cell? _ _ h) hS).trans h

theorem combos_go (b m i : Nat) (pre : List Int) (f : List Int → Bool) (h : i + m < b) :
    ((List.range' i (b - m - i)).flatMap fun j => (combos b m (j + 1)).map fun y => pre ++ ((j : Int) :: y)).find? f =
      (((combos b m (i + 1)).map fun y => (pre ++ [(i : Int)]) ++ y).find? f).or (((List.range' (i + 1) (b - m - (i + 1))).flatMap fun j => (combos b m (j + 1)).map fun y => pre ++ ((j : Int) :: y)).find? f) := by
  have e : b - m - i = (b - m - (i + 1)) + 1 := by omega
  rw [e, List.range'_succ, List.flatMap_cons, List.find?_append]
  simp [List.append_assoc]

theorem combos_pre (b m s : Nat) (pre : List Int) : (combos b (m + 1) s).map (fun y => pre ++ y) = (List.range' s (b - m - s)).flatMap fun j => (combos b m (j + 1)).map fun y => pre ++ ((j : Int) :: y) := by
  rw [combos, List.map_flatMap]
  simp [Function.comp_def]

/-- A slice of numbers that does not lie in a block. -/
def QAt (cf : Nat) (W : World) (p : Option Addr) (k : Nat) (l : List Int) : Prop := IntsAt W p k l ∧ ∀ a, p = some a → a.block ≠ cf
theorem QAt.near {cf : Nat} {W W' : World} {p : Option Addr} {k : Nat} {l : List Int} (h : QAt cf W p k l) (hn : Near (fun k => k = cf) W W') : QAt cf W' p k l :=
  ⟨h.1.kept fun a ha _ hlt => hn.block _ hlt (fun hs => h.2 a ha hs), h.2⟩
/-- What the search works with. -/
structure LvAt (W : World) (cf bk be bp ba : Nat) (kp : Option Addr) (kn kc : Nat) (K : List (Nat → Bool)) (ep : Option Addr) (em ec : Nat) (l : List Int) (rp : Option Addr) (n rc : Nat) : Prop where
  k : W.cell? ⟨bk, 0, none⟩ = some (.slice kp kn kc)
  kr : RowsAt cellsX 5 W kp kn K
  e : W.cell? ⟨be, 0, none⟩ = some (.slice ep em ec)
  el : IntsAt W ep em l
  r : W.cell? ⟨bp, 3, none⟩ = some (.slice rp n rc)
  a : W.cell? ⟨ba, 0, none⟩ = some (.func (.func 95) #[] #[.pointer (some ⟨cf, 0, none⟩), .pointer (some ⟨bk, 0, none⟩), .pointer (some ⟨be, 0, none⟩), .pointer (some ⟨bp, 0, none⟩), .pointer (some ⟨ba, 0, none⟩)])
  nk : bk ≠ cf
  ne : be ≠ cf
  np : bp ≠ cf
  na : ba ≠ cf
  nkp : ¬ InS kp kn cf
  nep : ¬ InS ep em cf
theorem LvAt.near {W W' : World} {cf bk be bp ba : Nat} {kp : Option Addr} {kn kc : Nat} {K : List (Nat → Bool)} {ep : Option Addr} {em ec : Nat} {l : List Int} {rp : Option Addr} {n rc : Nat} (h : LvAt W cf bk be bp ba kp kn kc K ep em ec l rp n rc) (hn : Near (fun k => k = cf) W W') : LvAt W' cf bk be bp ba kp kn kc K ep em ec l rp n rc :=
  ⟨near_cell h.k hn h.nk, h.kr.kept hn.size (fun a ha h0 hlt => hn.block _ hlt (fun e => h.nkp ⟨a, ha, h0, e.symm⟩)), near_cell h.e hn h.ne, h.el.kept (fun a ha h0 hlt => hn.block _ hlt (fun e => h.nep ⟨a, ha, h0, e.symm⟩)), near_cell h.r hn h.np, near_cell h.a hn h.na, h.nk, h.ne, h.np, h.na, h.nkp, h.nep⟩
/-- How the search ends. -/
def LvPost (cf : Nat) (W : World) (res : Option (List Int)) (e : Ending) (W' : World) : Prop :=
  e = .returned (.bool res.isSome) ∧ Near (fun k => k = cf) W W' ∧ Free W' cf ∧ ∀ X, res = some X → ∃ p k c, W'.cell? ⟨cf, 0, none⟩ = some (.slice p k c) ∧ QAt cf W' p k X
def okK (K : List (Nat → Bool)) (l X : List Int) : Bool := K.any (okX l X)

set_option maxRecDepth 100000 in
set_option maxHeartbeats 16000000 in
theorem leave95_any (cf bk be bp ba : Nat) (kp : Option Addr) (kn kc : Nat) (K : List (Nat → Bool)) (ep : Option Addr) (em ec : Nat) (l : List Int) (rp : Option Addr) (n rc : Nat) (hn6 : n ≤ 6) (hem : em ≤ 1000000) (h5 : IdL 5 l) (hkn : kn ≤ 1000000) :
    ∀ (m s : Nat) (pre : List Int) (p : Option Addr) (k c : Nat) (W : World), Free W cf → LvAt W cf bk be bp ba kp kn kc K ep em ec l rp n rc → QAt cf W p k pre → s ≤ n → pre.length ≤ s → pre.length + m ≤ 100 →
      Calls Try.prog 95 #[.slice p k c, .int .i64 s, .int .i64 m, .pointer (some ⟨cf, 0, none⟩), .pointer (some ⟨bk, 0, none⟩), .pointer (some ⟨be, 0, none⟩), .pointer (some ⟨bp, 0, none⟩), .pointer (some ⟨ba, 0, none⟩)] W (LvPost cf W (((combos n m s).map fun y => pre ++ y).find? (okK K l))) := by
  intro m
  induction m with
  | zero =>
    intro s pre p k c W hF hL hP hs hps hpm
    have hres : ((combos n 0 s).map fun y => pre ++ y).find? (okK K l) = if okK K l pre = true then some pre else none := by
      simp only [combos, List.map_cons, List.map_nil, List.append_nil, List.find?_cons, List.find?_nil]
      cases okK K l pre <;> rfl
    obtain ⟨res, hr2⟩ : ∃ res, (if okK K l pre = true then some pre else none) = res := ⟨_, rfl⟩
    rw [hres, hr2]
    have HR2 := hid hr2
    have hcl := hF.lt
    obtain ⟨q9, k9, d9, hv1, hv2⟩ := hF
    obtain ⟨W1, hW1⟩ : ∃ V, (W.alloc (.cells #[.slice p k c] 27)).setCell ⟨cf, 0, none⟩ (.slice p k c) = V := ⟨_, rfl⟩
    have hn0 : Below W.heap.size W (W.alloc (.cells #[.slice p k c] 27)) := (Below.refl _ _).alloc (Nat.le_refl _) _
    have hn1 : Near (fun k => k = cf) W W1 := by rw [← hW1]; exact ((Near.refl (fun k => k = cf) W).alloc _).setCell (p := ⟨cf, 0, none⟩) (fun _ => rfl) _
    have ho1 : W1.cell? ⟨W.heap.size, 0, none⟩ = some (.slice p k c) := by rw [← hW1]; exact (((BoxIs.start W #[.slice p k c] 27).other (by omega) _).2 0 _ rfl).1
    have hf0 : W1.cell? ⟨cf, 0, none⟩ = some (.slice p k c) := by rw [← hW1]; exact World.cell?_setCell_same' _ _ _ (by rw [hn0.cell (p := ⟨cf, 0, none⟩) hcl, hv1]; rfl)
    have hf1 : W1.frozen? ⟨cf, 0, none⟩ = false := by rw [← hW1, World.frozen?_setCell, hn0.frozen (p := ⟨cf, 0, none⟩) hcl]; exact hv2
    have hg1 : (W.alloc (.cells #[.slice p k c] 27)).cell? ⟨cf, 0, none⟩ = some (.slice q9 k9 d9) := (hn0.cell (p := ⟨cf, 0, none⟩) hcl).trans hv1
    have hg2 : (W.alloc (.cells #[.slice p k c] 27)).frozen? ⟨cf, 0, none⟩ = false := (hn0.frozen (p := ⟨cf, 0, none⟩) hcl).trans hv2
    have HL1 := hid (hL.near hn1)
    have HQ1 := hid (hP.near hn1)
    have HN1 := hid hn1
    have HF0 := hid hf0; have HF1 := hid hf1
    have HO1 := hid ho1
    have HC := hid (contains96_any be W.heap.size ep em ec l p k c pre kp kn kc K W1 ⟨HL1.out.e, HL1.out.el, HO1.out, HQ1.out.1⟩ (by have := hP.1.1; omega) hem h5 HL1.out.kr hkn)
    rw [show K.any (okX l pre) = okK K l pre from rfl] at HC
    have c0 := HL1.out.k
    clear hL hP hres hr2 hn1 hf0 hf1 ho1 hn0
    have hmf : ∀ (fn : Fn) (first cap : Array Value) (w : World), (Instr.makeFunc fn first cap).run Try.prog w = .ok (.func fn first cap) w := fun _ _ _ _ => rfl
    go_enter Try.func95, Try.ntmps95
    go_wp2_with fail
    (with_reducible refine HC.out.mono ?_)
    rintro e W2 ⟨rfl, hb⟩
    have HB := hid hb
    clear hb hW1 c0 hg1 hg2 hv1 hv2
    go_wp2_with fail
    go_ret
    have hlt := World.block_lt_of_cell? _ _ HF0.out
    refine ⟨by rw [← HR2.out]; cases okK K l pre <;> rfl, HN1.out.trans (near_below HB.out), ⟨_, _, _, (HB.out.cell (p := ⟨cf, 0, none⟩) hlt).trans HF0.out, (HB.out.frozen (p := ⟨cf, 0, none⟩) hlt).trans HF1.out⟩, fun X hX => ⟨p, k, c, (HB.out.cell (p := ⟨cf, 0, none⟩) hlt).trans HF0.out, ?_⟩⟩
    have : X = pre := by
      rw [← HR2.out] at hX
      cases hfp : okK K l pre <;> simp [hfp] at hX
      exact hX.symm
    subst this
    exact HQ1.out.near (near_below HB.out)
  | succ m ih =>
    intro s pre p k c W hF hL hP hs hps hpm
    have HF := hid hF
    have HL := hid hL
    have HP := hid hP
    have HIH := hid ih
    have hk100 : k ≤ 100 := by have := hP.1.1; omega
    have hm1 : (((m : Int) + 1) == 0) = false := by simp; omega
    have hmB : m ≤ 100 := by omega
    rw [combos_pre]
    obtain ⟨tot, htot⟩ : ∃ tot, ((List.range' s (n - m - s)).flatMap fun j => (combos n m (j + 1)).map fun y => pre ++ ((j : Int) :: y)).find? (okK K l) = tot := ⟨_, rfl⟩
    rw [htot]
    have HTOT := hid htot
    rw [show ((m + 1 : Nat) : Int) = (m : Int) + 1 by push_cast; rfl]
    have HB0 : Hid (Boxed1 W #[.slice p k c] 27 (W.alloc (.cells #[.slice p k c] 27))) := hid (Boxed1.start _ _ _)
    have HFL := hid hF.lt
    clear hF hL hP ih htot
    go_enter Try.func95, Try.ntmps95
    go_wp2_with fail
    go_loopw [12] (fun x wr => ∃ i : Nat, s ≤ i ∧ (i ≤ n ∨ i = s) ∧ x = .int .i64 i ∧ Near (fun k => k = cf) W wr ∧ Free wr cf ∧ BoxIs W.heap.size #[.slice p k c] wr ∧ ((List.range' i (n - m - i)).flatMap fun j => (combos n m (j + 1)).map fun y => pre ++ ((j : Int) :: y)).find? (okK K l) = tot) (fun x _ => n + 1 - (intOf x).toNat)
    case atStart => exact ⟨s, Nat.le_refl _, .inr rfl, rfl, near_below ((Below.refl _ _).alloc (Nat.le_refl _) _), HF.out.below ((Below.refl _ _).alloc (Nat.le_refl _) _), BoxIs.start _ _ _, HTOT.out⟩
    case round =>
      obtain ⟨i, hi1, hi2, rfl, hnr, hfr, hbo, hr⟩ := hrel
      have HNR := hid hnr; have HFR := hid hfr; have HR := hid hr; have HBO := hid hbo
      have HLR := hid (HL.out.near hnr)
      have HPR := hid (HP.out.near hnr)
      have hi100 : i ≤ 100 := by omega
      have c3 := HLR.out.r
      clear hnr hfr hr hbo
      by_cases hlt : i + m < n
      · have hle : (i : Int) ≤ (n : Int) - ((m : Int) + 1) := by omega
        obtain ⟨res, hres⟩ : ∃ res, ((combos n m (i + 1)).map fun y => (pre ++ [(i : Int)]) ++ y).find? (okK K l) = res := ⟨_, rfl⟩
        have HGO := hid (combos_go n m i pre (okK K l) hlt)
        have HIHR : Hid (∀ (V : World) (g5 cap5 : Nat), Below wr.heap.size wr V → OwnInts V wr.heap.size (.slice (some ⟨g5, 0, none⟩) (pre.length + 1) cap5) (pre ++ [(i : Int)]) → wr.heap.size ≤ g5 → Calls Try.prog 95 #[.slice (some ⟨g5, 0, none⟩) (pre.length + 1) cap5, .int .i64 ((i : Int) + 1), .int .i64 (m : Int), .pointer (some ⟨cf, 0, none⟩), .pointer (some ⟨bk, 0, none⟩), .pointer (some ⟨be, 0, none⟩), .pointer (some ⟨bp, 0, none⟩), .pointer (some ⟨ba, 0, none⟩)] V (LvPost cf V res)) := by
          intro V g5 cap5 hV hown hg5
          have hlen : (pre ++ [(i : Int)]).length = pre.length + 1 := by simp
          have hcw := HFR.out.lt
          have hq : QAt cf V (some ⟨g5, 0, none⟩) (pre.length + 1) (pre ++ [(i : Int)]) := by
            obtain ⟨p', c', e, hh⟩ := hown.slice
            rw [hlen] at e hh
            cases e
            refine ⟨hh, fun a ha => ?_⟩
            cases ha
            show g5 ≠ cf
            omega
          have h := HIH.out (i + 1) (pre ++ [(i : Int)]) (some ⟨g5, 0, none⟩) (pre.length + 1) cap5 V (HFR.out.below hV) (HLR.out.near (near_below hV)) hq (by omega) (by rw [hlen]; omega) (by rw [hlen]; omega)
          rw [hres] at h
          rw [show ((i + 1 : Nat) : Int) = (i : Int) + 1 by push_cast; rfl] at h
          exact h
        have HRES := hid hres
        clear hres
        have HV : Hid (∀ V, Near (fun k => k = cf) wr V → V.cell? ⟨ba, 0, none⟩ = some (.func (.func 95) #[] #[.pointer (some ⟨cf, 0, none⟩), .pointer (some ⟨bk, 0, none⟩), .pointer (some ⟨be, 0, none⟩), .pointer (some ⟨bp, 0, none⟩), .pointer (some ⟨ba, 0, none⟩)])) := hid (fun V hV => near_cell HLR.out.a hV HLR.out.na)
        have HOB : Hid (∀ V, Near (fun k => k = cf) wr V → V.cell? ⟨W.heap.size, 0, none⟩ = some (.slice p k c)) := hid (fun V hV => near_cell (HBO.out.2 0 _ rfl).1 hV (by have := HFL.out; omega))
        have hw1 : IntKind.i64.wrap ((i : Int) + 1) = (i : Int) + 1 := IntWalk.i64_in _ (by omega)
        have hw2 : IntKind.i64.wrap (m : Int) = (m : Int) := IntWalk.i64_in _ (by omega)
        go_upto_region 7 with fail
        clear c3
        have hBl : Below wr.heap.size wr wr.drew := (Below.refl _ _).drew
        refine wp_region_held_drew (S := fun V => Near (fun k => k = cf) wr V) (by kernel_rfl) ((Near.refl _ _).drew) (fun hS => ?_)
        simp only [List.size_toArray, List.length_cons, List.length_nil, Nat.reduceAdd, Array.replicate_succ, Array.replicate_zero, List.push_toArray, List.nil_append, List.cons_append]
        refine tkH (i := 0) (v := ?_) (fun V hV => ?_) ?_
        rotate_left
        · have v0 := HV.out V hV; go_simp
          try with_reducible rfl
        try simp only [Act.put, List.getElem_toArray, List.getElem_cons_zero, List.setIfInBounds_toArray, List.set_cons_zero, List.set_cons_succ]
        refine tkH (i := 1) (v := ?_) (fun V hV => ?_) ?_
        rotate_left
        · have v0 := HOB.out V hV; go_simp
          try with_reducible rfl
        try simp only [Act.put, List.getElem_toArray, List.getElem_cons_zero, List.getElem_cons_succ, List.setIfInBounds_toArray, List.set_cons_zero, List.set_cons_succ]
        refine tkH (i := 3) (v := ?_) (fun V hV => ?_) ?_
        rotate_left
        · go_simp
          try with_reducible rfl
        try simp only [Act.put, List.getElem_toArray, List.getElem_cons_zero, List.getElem_cons_succ, List.setIfInBounds_toArray, List.set_cons_zero, List.set_cons_succ]
        refine tkH (i := 6) (v := ?_) (fun V hV => ?_) ?_
        rotate_left
        · go_simp
          try with_reducible rfl
        try simp only [Act.put, List.getElem_toArray, List.getElem_cons_zero, List.getElem_cons_succ, List.setIfInBounds_toArray, List.set_cons_zero, List.set_cons_succ]
        refine tkH (i := 7) (v := ?_) (fun V hV => ?_) ?_
        rotate_left
        · go_simp
          try with_reducible rfl
        try simp only [Act.put, List.getElem_toArray, List.getElem_cons_zero, List.getElem_cons_succ, List.setIfInBounds_toArray, List.set_cons_zero, List.set_cons_succ]
        refine tkH (i := 8) (v := ?_) (fun V hV => ?_) ?_
        rotate_left
        · go_simp
          try with_reducible rfl
        try simp only [Act.put, List.getElem_toArray, List.getElem_cons_zero, List.getElem_cons_succ, List.setIfInBounds_toArray, List.set_cons_zero, List.set_cons_succ]
        refine tkH (i := 9) (v := ?_) (fun V hV => ?_) ?_
        rotate_left
        · go_simp
          try with_reducible rfl
        try simp only [Act.put, List.getElem_toArray, List.getElem_cons_zero, List.getElem_cons_succ, List.setIfInBounds_toArray, List.set_cons_zero, List.set_cons_succ]
        refine wpAnyH_ready (rs := [2, 4]) (by kernel_rfl) (by simp) ?_
        refine AllReadyH.cons (o := _) rfl (fun K hK => ?_) ?_
        · skip
          have hqp := (HPR.out.near hS).1
          go_simp
          (with_reducible refine (clone_any p k c pre _ hqp (by omega)).mono ?_)
          rintro e V2 ⟨v2, rfl, ho2, hb2⟩
          have hs2 := hS.size
          have hbv := Nat.le_trans hs2 hb2.size
          have hBl := hBl.trans (hb2.mono hBl.size)
          refine hK.out _ _ (hS.trans (near_below hb2)) (fun hS => ?_)
          clear hK K
          try simp only [List.setIfInBounds_toArray, List.set_cons_zero, List.set_cons_succ]
          refine wpAnyH_ready (rs := [4]) (by kernel_rfl) (by simp) ?_
          refine AllReadyH.cons (o := _) rfl (fun K hK => ?_) AllReadyH.nil
          obtain ⟨V4, hV4⟩ : ∃ V4, V2.alloc (.cells #[.int .i64 (i : Int)] 3) = V4 := ⟨_, rfl⟩
          have hx4 : V4.cell? ⟨V2.heap.size, 0, none⟩ = some (.int .i64 (i : Int)) := by rw [← hV4]; exact cell_box V2 _ 3 0 _ rfl
          have hb4 : Below V2.heap.size V2 V4 := by rw [← hV4]; exact (Below.refl _ _).alloc (Nat.le_refl _) _
          have hBl := hBl.trans (hb4.mono hBl.size)
          go_simp
          refine hK.out _ _ (hS.trans (near_below hb4)) (fun hS => ?_)
          clear hK K
          try simp only [List.setIfInBounds_toArray, List.set_cons_zero, List.set_cons_succ]
          refine wpAnyH_ready (rs := [5]) (by kernel_rfl) (by simp) ?_
          refine AllReadyH.cons (o := _) rfl (fun K hK => ?_) AllReadyH.nil
          refine step_append_int (by rfl) (.tmp 31) (.tmp 33) (by rfl) wr.heap.size v2 pre (i : Int) V2.heap.size ((ho2.mono hs2).below hb4) rfl rfl hx4 (by have := HPR.out.1.1; omega) hS.size ?_
          intro g5 cap5 V5 h5 hb5 hg5
          have hBl := hBl.trans hb5
          refine hK.out _ _ (hS.trans' (T := fun k => wr.heap.size ≤ k) (Near.of_below hb5 (fun k h1 h2 => h2)) (fun j h1 h2 => by omega)) (fun hS => ?_)
          clear hK K
          try simp only [Act.put, List.getElem_toArray, List.getElem_cons_zero, List.getElem_cons_succ, List.setIfInBounds_toArray, List.set_cons_zero, List.set_cons_succ]
          refine wpAnyH_ready (rs := [10]) (by kernel_rfl) (by simp) ?_
          refine AllReadyH.cons (o := _) rfl (fun K hK => ?_) AllReadyH.nil
          go_simp
          (with_reducible refine (HIHR.out V5 g5 cap5 hBl h5 hg5).mono ?_)
          rintro e V10 ⟨rfl, hn10, hf10, hx10⟩
          refine hK.out _ _ (hS.trans hn10) (fun hS => ?_)
          clear hK K
          try simp only [List.setIfInBounds_toArray, List.set_cons_zero, List.set_cons_succ]
          refine wpAnyH_done (by kernel_rfl) ?_ _
          have HS10 := hid (HNR.out.trans hS)
          have HF10 := hid hf10; have HX10 := hid hx10
          have HB10 := hid (HBO.out.far hS (by have := HFL.out; omega))
          clear hS hBl hn10 hf10 hx10
          cases res with
          | none =>
            have HNX : Hid (((List.range' (i + 1) (n - m - (i + 1))).flatMap fun j => (combos n m (j + 1)).map fun y => pre ++ ((j : Int) :: y)).find? (okK K l) = tot) := hid (by
              have h1 := HGO.out
              rw [HRES.out, HR.out] at h1
              simpa using h1.symm)
            go_wp2_with fail
            go_roundw
            case rel => exact ⟨i + 1, by omega, .inl (by omega), by go_num, HS10.out, HF10.out, HB10.out, HNX.out⟩
            case measure => simp [intOf]; omega
          | some X =>
            have HTX : Hid (tot = some X) := hid (by
              have h1 := HGO.out
              rw [HRES.out, HR.out] at h1
              simpa using h1)
            go_wp2_with fail
            go_ret
            exact ⟨by rw [HTX.out]; rfl, HS10.out, HF10.out, fun Y hY => HX10.out Y (by rw [← HTX.out]; exact hY)⟩
        refine AllReadyH.cons (o := _) rfl (fun K hK => ?_) AllReadyH.nil
        obtain ⟨V4, hV4⟩ : ∃ V4, (wr.alloc (.cells #[.int .i64 (i : Int)] 3)).drew = V4 := ⟨_, rfl⟩
        have hx4 : V4.cell? ⟨wr.heap.size, 0, none⟩ = some (.int .i64 (i : Int)) := by rw [← hV4]; exact cell_box wr _ 3 0 _ rfl
        have hb4 : Below wr.heap.size wr V4 := by rw [← hV4]; exact ((Below.refl _ _).alloc (Nat.le_refl _) _).drew
        have hBl : Below wr.heap.size wr V4 := hb4
        go_simp
        refine hK.out _ _ (near_below hb4) (fun hS => ?_)
        clear hK K
        try simp only [List.setIfInBounds_toArray, List.set_cons_zero, List.set_cons_succ]
        refine wpAnyH_ready (rs := [2]) (by kernel_rfl) (by simp) ?_
        refine AllReadyH.cons (o := _) rfl (fun K hK => ?_) AllReadyH.nil
        have hqp := (HPR.out.near hS).1
        go_simp
        (with_reducible refine (clone_any p k c pre _ hqp (by omega)).mono ?_)
        rintro e V2 ⟨v2, rfl, ho2, hb2⟩
        have hs2 := hS.size
        have hbv := Nat.le_trans hs2 hb2.size
        have hBl := hBl.trans (hb2.mono hBl.size)
        have hx4 := (hb2.cell (World.block_lt_of_cell? _ _ hx4)).trans hx4
        refine hK.out _ _ (hS.trans (near_below hb2)) (fun hS => ?_)
        clear hK K
        try simp only [List.setIfInBounds_toArray, List.set_cons_zero, List.set_cons_succ]
        refine wpAnyH_ready (rs := [5]) (by kernel_rfl) (by simp) ?_
        refine AllReadyH.cons (o := _) rfl (fun K hK => ?_) AllReadyH.nil
        refine step_append_int (by rfl) (.tmp 31) (.tmp 33) (by rfl) wr.heap.size v2 pre (i : Int) wr.heap.size (ho2.mono hs2) rfl rfl hx4 (by have := HPR.out.1.1; omega) hS.size ?_
        intro g5 cap5 V5 h5 hb5 hg5
        have hBl := hBl.trans hb5
        refine hK.out _ _ (hS.trans' (T := fun k => wr.heap.size ≤ k) (Near.of_below hb5 (fun k h1 h2 => h2)) (fun j h1 h2 => by omega)) (fun hS => ?_)
        clear hK K
        try simp only [Act.put, List.getElem_toArray, List.getElem_cons_zero, List.getElem_cons_succ, List.setIfInBounds_toArray, List.set_cons_zero, List.set_cons_succ]
        refine wpAnyH_ready (rs := [10]) (by kernel_rfl) (by simp) ?_
        refine AllReadyH.cons (o := _) rfl (fun K hK => ?_) AllReadyH.nil
        go_simp
        (with_reducible refine (HIHR.out V5 g5 cap5 hBl h5 hg5).mono ?_)
        rintro e V10 ⟨rfl, hn10, hf10, hx10⟩
        refine hK.out _ _ (hS.trans hn10) (fun hS => ?_)
        clear hK K
        try simp only [List.setIfInBounds_toArray, List.set_cons_zero, List.set_cons_succ]
        refine wpAnyH_done (by kernel_rfl) ?_ _
        have HS10 := hid (HNR.out.trans hS)
        have HF10 := hid hf10; have HX10 := hid hx10
        have HB10 := hid (HBO.out.far hS (by have := HFL.out; omega))
        clear hS hBl hn10 hf10 hx10
        cases res with
        | none =>
          have HNX : Hid (((List.range' (i + 1) (n - m - (i + 1))).flatMap fun j => (combos n m (j + 1)).map fun y => pre ++ ((j : Int) :: y)).find? (okK K l) = tot) := hid (by
            have h1 := HGO.out
            rw [HRES.out, HR.out] at h1
            simpa using h1.symm)
          go_wp2_with fail
          go_roundw
          case rel => exact ⟨i + 1, by omega, .inl (by omega), by go_num, HS10.out, HF10.out, HB10.out, HNX.out⟩
          case measure => simp [intOf]; omega
        | some X =>
          have HTX : Hid (tot = some X) := hid (by
            have h1 := HGO.out
            rw [HRES.out, HR.out] at h1
            simpa using h1)
          go_wp2_with fail
          go_ret
          exact ⟨by rw [HTX.out]; rfl, HS10.out, HF10.out, fun Y hY => HX10.out Y (by rw [← HTX.out]; exact hY)⟩
      · have hgt : (n : Int) - ((m : Int) + 1) < (i : Int) := by omega
        have HTX : Hid (tot = none) := hid (by rw [← HR.out, show n - m - i = 0 by omega]; rfl)
        go_wp2_with fail
        go_ret
        exact ⟨by rw [HTX.out]; rfl, HNR.out, HFR.out, fun Y hY => by rw [HTX.out] at hY; cases hY⟩
end Go.Proofs.Ytaioobhblfnlaaa
