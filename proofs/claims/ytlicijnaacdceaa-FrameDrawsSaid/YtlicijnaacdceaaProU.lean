/- Bounds and Hits of the program. -/
import Derived.Test.YtlicijnaacdceaaProT
namespace Go.Proofs.Ytlicijnaacdceaa
open Go.RowKit

/-- The bounds of an answer, and the error. -/
def bndR (F : List Int → Int) (r cc : Int) (l : List Int) (sm : Int) (cs : List Cnt) : Int × Int × Int := if faultL r cc l sm cs = 0 then askV (rngP F (genP (okP cs [] cc sm) l 0 [])) else (0, 0, faultL r cc l sm cs)
theorem Boxed2.fz1 {w : World} {cs ds : Array Value} {T U : TypeId} {W : World} (h : Boxed2 w cs T ds U W) (k : Nat) (hk : (cs[k]?).isSome = true) : W.frozen? ⟨w.heap.size, k, none⟩ = false :=
  (Below.frozen h (p := ⟨w.heap.size, k, none⟩) (by simp)).trans ((((Below.refl _ _).alloc (Nat.le_refl _) _ : Below (w.alloc (.cells cs T)).heap.size _ _).frozen (p := ⟨w.heap.size, k, none⟩) (by simp)).trans (frozen_new w cs T k hk))

set_option maxRecDepth 40000 in
set_option maxHeartbeats 4000000 in
theorem Bounds_any (r cc : Int) (p : Option Addr) (n c : Nat) (l : List Int) (sm : Int) (q : Option Addr) (m d : Nat) (cs : List Cnt) (w : World) (hl : IntsAt w p n l) (hcs : CntsAt w q m cs) (hn : n ≤ 100) (hm : m ≤ 100) :
    Calls Try.prog 41 #[.agg #[.int .i64 r, .int .i64 cc, .slice p n c, .int .i64 sm, .slice q m d]] w fun e w' => e = .returned (.tuple #[.agg #[.int .i64 (bndR (shareL l) r cc l sm cs).1, .int .i64 (bndR (shareL l) r cc l sm cs).2.1], .int .i64 (bndR (shareL l) r cc l sm cs).2.2]) ∧ Below w.heap.size w w' := by
  have HC := hid (fun W (hW : Below w.heap.size w W) => checkSurvey_any r cc p n c l sm q m d cs W (hl.below hW) (hcs.below hW) hn hm)
  have HL := hid hl
  have HCS := hid hcs
  clear hl hcs
  by_cases hf : faultL r cc l sm cs = 0
  · have HE : Hid (bndR (shareL l) r cc l sm cs = askV (rngP (shareL l) (genP (okP cs [] cc sm) l 0 []))) := by show _ = _; rw [bndR, if_pos hf]
    have HF := hid hf
    rw [hf] at HC
    clear hf
    go_enter Try.func41, Try.ntmps41
    go_wp2_with fail
    refine (HC.out _ ?_).mono ?_
    · exact ((Below.refl _ _).alloc (Nat.le_refl _) _).alloc (by simp) _
    rintro e w1 ⟨rfl, hb⟩
    have HB2 : Hid (Boxed2 w #[.int .i64 r, .int .i64 cc, .slice p n c, .int .i64 sm, .slice q m d] 36 #[.int .i64 0, .int .i64 0] 62 w1) := hb.mono (by simp)
    clear hb
    go_wp2_with fail
    refine wp_region_held_drew (S := fun V => Boxed1 w #[.int .i64 r, .int .i64 cc, .slice p n c, .int .i64 sm, .slice q m d] 36 V) (by kernel_rfl) ?_ (fun hS => ?_)
    · show Below (w.heap.size + 1) _ _
      refine (((Below.refl _ _).alloc (by simp) _).trans (Below.mono HB2.out (by omega))).drew
    simp only [List.size_toArray, List.length_cons, List.length_nil, Nat.reduceAdd, Array.replicate_succ, Array.replicate_zero, List.push_toArray, List.nil_append, List.cons_append]
    refine wpAnyH_take (i := 1) (v := ?_) rfl (by kernel_rfl) (by kernel_rfl) (by kernel_rfl) (fun _ _ _ h => h) (Or.inl ⟨by rfl, fun V hV => ?_⟩) (by assumption) ?_
    rotate_left
    · have hs0 := Boxed1.cell hV 0 (v := .int .i64 r) rfl; have hs1 := Boxed1.cell hV 1 (v := .int .i64 cc) rfl; have hs2 := Boxed1.cell hV 2 (v := .slice p n c) rfl; have hs3 := Boxed1.cell hV 3 (v := .int .i64 sm) rfl; have hs4 := Boxed1.cell hV 4 (v := .slice q m d) rfl; go_simp
      try with_reducible rfl
    try simp only [Act.put, List.getElem_toArray, List.getElem_cons_zero, List.getElem_cons_succ, List.setIfInBounds_toArray, List.set_cons_zero, List.set_cons_succ]
    refine wpAnyH_ready (rs := [0]) (by kernel_rfl) (by simp) ?_
    refine AllReadyH.cons (o := _) rfl (fun K hK => ?_) AllReadyH.nil
    go_simp
    refine (shareQ_any _).mono ?_
    rintro e V0 ⟨rfl, hb0⟩
    refine hK.out _ _ (Boxed1.step hS hb0) (fun hS => ?_)
    clear hK K
    try simp only [List.setIfInBounds_toArray, List.set_cons_zero]
    refine wpAnyH_ready (rs := [2]) (by kernel_rfl) (by simp) ?_
    refine AllReadyH.cons (o := _) rfl (fun K hK => ?_) AllReadyH.nil
    go_simp
    refine (asked_share_any r cc p n c l sm q m d cs _ (HL.out.below (Boxed1.below hS)) (HCS.out.below (Boxed1.below hS)) hm HF.out).mono ?_
    rintro e V2 ⟨rfl, hb2⟩
    have HBB := (HB2.out.drew.step (hb0.mono HB2.out.size)).step (hb2.mono (Nat.le_trans HB2.out.size hb0.size))
    have t0 := HBB.cell2 0 rfl
    have t1 := HBB.cell2 1 rfl
    have f0 := HBB.fz2 0 rfl
    have f1 := HBB.fz2 1 rfl
    refine hK.out _ _ (Boxed1.step hS hb2) (fun hS => ?_)
    clear hK K
    try simp only [List.setIfInBounds_toArray, List.set_cons_zero, List.set_cons_succ]
    refine wpAnyH_take (i := 3) (v := ?_) rfl (by kernel_rfl) (by kernel_rfl) (by kernel_rfl) (fun _ _ _ h => h) (Or.inl ⟨by rfl, fun V hV => ?_⟩) (by assumption) ?_
    rotate_left
    · go_simp
      try with_reducible rfl
    try simp only [Act.put, List.getElem_toArray, List.getElem_cons_zero, List.getElem_cons_succ, List.setIfInBounds_toArray, List.set_cons_zero, List.set_cons_succ]
    refine wpAnyH_take (i := 4) (v := ?_) rfl (by kernel_rfl) (by kernel_rfl) (by kernel_rfl) (fun _ _ _ h => h) (Or.inl ⟨by rfl, fun V hV => ?_⟩) (by assumption) ?_
    rotate_left
    · go_simp
      try with_reducible rfl
    try simp only [Act.put, List.getElem_toArray, List.getElem_cons_zero, List.getElem_cons_succ, List.setIfInBounds_toArray, List.set_cons_zero, List.set_cons_succ]
    refine wpAnyH_ready (rs := [5]) (by kernel_rfl) (by simp) ?_
    refine AllReadyH.cons (o := _) rfl (fun K hK => ?_) AllReadyH.nil
    go_simp
    refine hK.out _ _ (Below.setCell (Below.setCell hS (p := ⟨w.heap.size + 1, 0, none⟩) (Nat.le_refl _) _) (p := ⟨w.heap.size + 1, 1, none⟩) (Nat.le_refl _) _) (fun hS => ?_)
    clear hK K
    try simp only [List.setIfInBounds_toArray, List.set_cons_zero, List.set_cons_succ]
    refine wpAnyH_take (i := 6) (v := ?_) rfl (by kernel_rfl) (by kernel_rfl) (by kernel_rfl) (fun _ _ _ h => h) (Or.inl ⟨by rfl, fun V hV => ?_⟩) (by assumption) ?_
    rotate_left
    · go_simp
      try with_reducible rfl
    try simp only [Act.put, List.getElem_toArray, List.getElem_cons_zero, List.getElem_cons_succ, List.setIfInBounds_toArray, List.set_cons_zero, List.set_cons_succ]
    refine wpAnyH_done (by kernel_rfl) ?_ _
    have HR9 := set2 t0 t1
    have HS := hid hS
    clear hS
    go_wp2
    exact ret_rng rfl rfl rfl (HR9 _ _).1 (HR9 _ _).2 ⟨by rw [HE.out]; rfl, Boxed1.below HS.out⟩
  · have HE : Hid (bndR (shareL l) r cc l sm cs = (0, 0, faultL r cc l sm cs)) := by show _ = _; rw [bndR, if_neg hf]
    generalize faultL r cc l sm cs = fl at *
    have hfb : (fl == 0) = false := by simp [hf]
    go_enter Try.func41, Try.ntmps41
    go_wp2_with fail
    refine (HC.out _ ?_).mono ?_
    · exact ((Below.refl _ _).alloc (Nat.le_refl _) _).alloc (by simp) _
    rintro e w1 ⟨rfl, hb⟩
    have HB2 : Hid (Boxed2 w #[.int .i64 r, .int .i64 cc, .slice p n c, .int .i64 sm, .slice q m d] 36 #[.int .i64 0, .int .i64 0] 62 w1) := hb.mono (by simp)
    have t0 := HB2.out.cell2 0 rfl
    have t1 := HB2.out.cell2 1 rfl
    have f0 := HB2.out.fz2 0 rfl
    have f1 := HB2.out.fz2 1 rfl
    have HR9 := set2 t0 t1
    clear hb
    go_wp2_with fail
    exact ret_rng rfl rfl rfl (HR9 _ _).1 (HR9 _ _).2 ⟨by rw [HE.out]; rfl, (HB2.out.below.setCell (by show _ ≤ w.heap.size + 1; omega) _).setCell (by show _ ≤ w.heap.size + 1; omega) _⟩

/-- The answer of Hits. -/
def hitsR (place : Int) (r cc : Int) (l : List Int) (sm : Int) (cs : List Cnt) : Int × Int × Int := if faultL r cc l sm cs = 0 ∧ inB place 0 ((l.length : Int) - 1) = false then (0, 0, 2) else bndR (fun x => x[place.toNat]?.getD 0) r cc l sm cs

set_option maxRecDepth 40000 in
set_option maxHeartbeats 4000000 in
theorem Hits_any (r cc : Int) (p : Option Addr) (n c : Nat) (l : List Int) (sm : Int) (q : Option Addr) (m d : Nat) (cs : List Cnt) (place : Int) (w : World) (hl : IntsAt w p n l) (hcs : CntsAt w q m cs) (hn : n ≤ 100) (hm : m ≤ 100) :
    Calls Try.prog 43 #[.agg #[.int .i64 r, .int .i64 cc, .slice p n c, .int .i64 sm, .slice q m d], .int .i64 place] w fun e w' => e = .returned (.tuple #[.agg #[.int .i64 (hitsR place r cc l sm cs).1, .int .i64 (hitsR place r cc l sm cs).2.1], .int .i64 (hitsR place r cc l sm cs).2.2]) ∧ Below w.heap.size w w' := by
  have HC := hid (fun W (hW : Below w.heap.size w W) => checkSurvey_any r cc p n c l sm q m d cs W (hl.below hW) (hcs.below hW) hn hm)
  have HL := hid hl
  have HCS := hid hcs
  have HNL := hid hl.1
  clear hl hcs
  obtain ⟨Wa, hWa⟩ : ∃ Wa, w.alloc (.cells #[.int .i64 r, .int .i64 cc, .slice p n c, .int .i64 sm, .slice q m d] 36) = Wa := ⟨_, rfl⟩
  obtain ⟨Wb, hWb⟩ : ∃ Wb, Wa.alloc (.cells #[.int .i64 place] 3) = Wb := ⟨_, rfl⟩
  obtain ⟨Wc, hWc⟩ : ∃ Wc, Wb.alloc (.cells #[.int .i64 0, .int .i64 0] 62) = Wc := ⟨_, rfl⟩
  have B1 : Boxed1 w #[.int .i64 r, .int .i64 cc, .slice p n c, .int .i64 sm, .slice q m d] 36 Wc := by rw [← hWc, ← hWb, ← hWa]; exact ((Boxed1.start _ _ _).alloc _).alloc _
  have B2 : Boxed1 Wa #[.int .i64 place] 3 Wc := by rw [← hWc, ← hWb]; exact (Boxed1.start _ _ _).alloc _
  have B3 : Boxed1 Wb #[.int .i64 0, .int .i64 0] 62 Wc := by rw [← hWc]; exact Boxed1.start _ _ _
  have sa : Wa.heap.size = w.heap.size + 1 := by rw [← hWa]; simp
  have sb : Wb.heap.size = w.heap.size + 1 + 1 := by rw [← hWb, World.size_alloc, sa]
  have sc : Wc.heap.size = w.heap.size + 3 := by rw [← hWc, World.size_alloc, sb]
  have HB1 := hid B1
  have HB2 := hid B2
  have HB3 := hid B3
  have HSA := hid sa
  have HSB := hid sb
  have HSC := hid sc
  clear B1 B2 B3 sa sb sc
  by_cases hf : faultL r cc l sm cs = 0
  · have HF := hid hf
    rw [hf] at HC
    have hn9 : n ≤ 9 := by have := (field_facts (fault0 hf).2.1).2.2.2.2.2.2.1; have := HNL.out; omega
    cases hpl : inB place 0 ((n : Int) - 1)
    · have HE : Hid (hitsR place r cc l sm cs = (0, 0, 2)) := by show _ = _; rw [hitsR, if_pos ⟨hf, by rw [← HNL.out]; exact hpl⟩]
      clear hf
      have g0 := HB1.out.cell 0 (v := .int .i64 r) rfl
      have g1 := HB1.out.cell 1 (v := .int .i64 cc) rfl
      have g2 := HB1.out.cell 2 (v := .slice p n c) rfl
      have g3 := HB1.out.cell 3 (v := .int .i64 sm) rfl
      have g4 := HB1.out.cell 4 (v := .slice q m d) rfl
      go_enter Try.func43, Try.ntmps43
      go_wp2_with fail
      refine (HC.out _ HB1.out.below).mono ?_
      rintro e w1 ⟨rfl, hb⟩
      have C1 := HB1.out.step hb
      have C2 := HB2.out.step hb
      have C3 := HB3.out.step hb
      have hs0 := C1.cell 0 (v := .int .i64 r) rfl
      have hs1 := C1.cell 1 (v := .int .i64 cc) rfl
      have hs2 := C1.cell 2 (v := .slice p n c) rfl
      have hp0 := C2.cell 0 (v := .int .i64 place) rfl
      clear hb
      have HC1 := hid C1
      have HC3 := hid C3
      clear C1 C2 C3
      go_wp2_with fail
      refine (place_any r cc p n c place _ (by omega)).mono ?_
      rintro e w2 ⟨rfl, hb2⟩
      rw [hpl]
      have C3 := HC3.out.step hb2
      have t0 := C3.cell 0 rfl
      have t1 := C3.cell 1 rfl
      have f0 := C3.fz 0 rfl
      have f1 := C3.fz 1 rfl
      have HBL := hid (HC1.out.step hb2).below
      have HR9 := set2 t0 t1
      clear C3 hb2
      go_wp2_with fail
      exact ret_rng rfl rfl rfl (HR9 _ _).1 (HR9 _ _).2 ⟨by rw [HE.out]; rfl, (HBL.out.setCell (by show _ ≤ Wb.heap.size; have := HSB.out; omega) _).setCell (by show _ ≤ Wb.heap.size; have := HSB.out; omega) _⟩
    · have HE : Hid (hitsR place r cc l sm cs = askV (rngP (fun x => x[place.toNat]?.getD 0) (genP (okP cs [] cc sm) l 0 []))) := by
        show _ = _; rw [hitsR, if_neg (fun h => by rw [← HNL.out, hpl] at h; cases h.2), bndR, if_pos hf]
      have hmf : ∀ (fn : Fn) (first cap : Array Value) (w : World), (Instr.makeFunc fn first cap).run Try.prog w = .ok (.func fn first cap) w := fun _ _ _ _ => rfl
      obtain ⟨pl, rfl⟩ : ∃ pl : Nat, place = pl := ⟨place.toNat, by simp [inB] at hpl; omega⟩
      have hpn : pl < n := by simp [inB] at hpl; omega
      clear hf
      have g0 := HB1.out.cell 0 (v := .int .i64 r) rfl
      have g1 := HB1.out.cell 1 (v := .int .i64 cc) rfl
      have g2 := HB1.out.cell 2 (v := .slice p n c) rfl
      have g3 := HB1.out.cell 3 (v := .int .i64 sm) rfl
      have g4 := HB1.out.cell 4 (v := .slice q m d) rfl
      go_enter Try.func43, Try.ntmps43
      go_wp2_with fail
      refine (HC.out _ HB1.out.below).mono ?_
      rintro e w1 ⟨rfl, hb⟩
      have C1 := HB1.out.step hb
      have C2 := HB2.out.step hb
      have C3 := HB3.out.step hb
      have hs0 := C1.cell 0 (v := .int .i64 r) rfl
      have hs1 := C1.cell 1 (v := .int .i64 cc) rfl
      have hs2 := C1.cell 2 (v := .slice p n c) rfl
      have hp0 := C2.cell 0 (v := .int .i64 (pl : Int)) rfl
      clear hb
      have HC1 := hid C1
      have HC2 := hid C2
      have HC3 := hid C3
      clear C1 C2 C3
      go_wp2_with fail
      refine (place_any r cc p n c (pl : Int) _ (by omega)).mono ?_
      rintro e w2 ⟨rfl, hb2⟩
      rw [hpl]
      have C1 := HC1.out.step hb2
      have C2 := HC2.out.step hb2
      have C3 := HC3.out.step hb2
      clear hs0 hs1 hs2 hp0
      have hs0 := C1.cell 0 (v := .int .i64 r) rfl
      have hs1 := C1.cell 1 (v := .int .i64 cc) rfl
      have hs2 := C1.cell 2 (v := .slice p n c) rfl
      have hp0 := C2.cell 0 (v := .int .i64 (pl : Int)) rfl
      have hs3 := C1.cell 3 (v := .int .i64 sm) rfl
      have hs4 := C1.cell 4 (v := .slice q m d) rfl
      have HC1 := hid C1
      have HC3 := hid C3
      have HP0 := hid hp0
      clear hb2 C1 C2 C3
      go_wp2_with fail
      refine (asked_hits_any r cc p n c l sm q m d cs _ pl _ (HL.out.below HC1.out.below) (HCS.out.below HC1.out.below) hm HF.out HP0.out hpn).mono ?_
      rintro e w3 ⟨rfl, hb3⟩
      have C3 := HC3.out.step hb3
      have t0 := C3.cell 0 rfl
      have t1 := C3.cell 1 rfl
      have f0 := C3.fz 0 rfl
      have f1 := C3.fz 1 rfl
      have HBL := hid (HC1.out.step hb3).below
      have HR9 := set2 t0 t1
      clear C3 hb3 hs0 hs1 hs2 hs3 hs4 hp0
      go_wp2_with fail
      exact ret_rng rfl rfl rfl (HR9 _ _).1 (HR9 _ _).2 ⟨by rw [HE.out]; rfl, (HBL.out.setCell (by show _ ≤ Wb.heap.size; have := HSB.out; omega) _).setCell (by show _ ≤ Wb.heap.size; have := HSB.out; omega) _⟩
  · have HE : Hid (hitsR place r cc l sm cs = (0, 0, faultL r cc l sm cs)) := by show _ = _; rw [hitsR, if_neg (fun h => hf h.1), bndR, if_neg hf]
    generalize faultL r cc l sm cs = fl at *
    have hfb : (fl == 0) = false := by simp [hf]
    have g0 := HB1.out.cell 0 (v := .int .i64 r) rfl
    have g1 := HB1.out.cell 1 (v := .int .i64 cc) rfl
    have g2 := HB1.out.cell 2 (v := .slice p n c) rfl
    have g3 := HB1.out.cell 3 (v := .int .i64 sm) rfl
    have g4 := HB1.out.cell 4 (v := .slice q m d) rfl
    go_enter Try.func43, Try.ntmps43
    go_wp2_with fail
    refine (HC.out _ HB1.out.below).mono ?_
    rintro e w1 ⟨rfl, hb⟩
    have C3 := HB3.out.step hb
    have t0 := C3.cell 0 rfl
    have t1 := C3.cell 1 rfl
    have f0 := C3.fz 0 rfl
    have f1 := C3.fz 1 rfl
    have HBL := hid (HB1.out.step hb).below
    have HR9 := set2 t0 t1
    clear C3 hb
    go_wp2_with fail
    exact ret_rng rfl rfl rfl (HR9 _ _).1 (HR9 _ _).2 ⟨by rw [HE.out]; rfl, (HBL.out.setCell (by show _ ≤ Wb.heap.size; have := HSB.out; omega) _).setCell (by show _ ≤ Wb.heap.size; have := HSB.out; omega) _⟩
end Go.Proofs.Ytlicijnaacdceaa
