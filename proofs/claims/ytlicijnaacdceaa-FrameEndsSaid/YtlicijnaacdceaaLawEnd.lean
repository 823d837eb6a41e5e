/- FrameEnds returns true, whatever its arguments are. No condition. -/
import Derived.Test.YtlicijnaacdceaaLawTrt
namespace Go.Proofs.Ytlicijnaacdceaa
open Go.RowKit

theorem any_snoc (f : Nat → Bool) (k : Nat) : anyR f 0 (k + 1) = (anyR f 0 k || f k) := by
  rw [Bool.eq_iff_iff, Bool.or_eq_true, anyR_iff, anyR_iff]
  constructor
  · rintro ⟨i, _, h2, h3⟩
    by_cases e : i = k
    · subst e; exact .inr h3
    · exact .inl ⟨i, by omega, by omega, h3⟩
  · rintro (⟨i, _, h2, h3⟩ | h)
    · exact ⟨i, by omega, by omega, h3⟩
    · exact ⟨k, by omega, by omega, h⟩

/-- The number is of a truth where F is v. -/
def endP (cc : Int) (l : List Int) (sm : Int) (cs : List Cnt) (F : List Int → Int) (v : Int) (i : Nat) : Bool := truthAt cc l sm cs 0 i && (F (nthG l (i : Int)) == v)

theorem endP_true {cc : Int} {l : List Int} {sm : Int} {cs : List Cnt} {F : List Int → Int} {v : Int} {k : Nat} {h : List Int} (ht : truthAt cc l sm cs 0 k = true) (hh : nthG l (k : Int) = h) : endP cc l sm cs F v k = (F h == v) := by
  rw [endP, ht, hh, Bool.true_and]

theorem endP_false {cc : Int} {l : List Int} {sm : Int} {cs : List Cnt} {F : List Int → Int} {v : Int} {k : Nat} (ht : truthAt cc l sm cs 0 k = false) : endP cc l sm cs F v k = false := by
  rw [endP, ht, Bool.false_and]

theorem end_reached {r cc : Int} {l : List Int} {sm : Int} {cs : List Cnt} {F : List Int → Int} {v : Int} {mn : Nat} (hf : faultL r cc l sm cs = 0) (hm : manyL l = (mn : Int)) (h : ∃ x ∈ genP (okP cs [] cc sm) l 0 [], F x = v) : anyR (endP cc l sm cs F v) 0 mn = true := by
  obtain ⟨x, hx, rfl⟩ := h
  obtain ⟨i, hi, rfl⟩ := ((truths_ok hf).mem x).1 hx
  obtain ⟨j, h1, h2, h3, rfl⟩ := (pickR_mem _ _ _ _).1 hi
  rw [anyR_iff]
  exact ⟨j, by omega, by omega, by rw [endP, h3]; simp⟩

/-- Either there is no truth, and both errors say so, or all four ends are reached. -/
theorem ends_all {r cc : Int} {l : List Int} {sm : Int} {cs : List Cnt} {mn pl : Nat} (hf : faultL r cc l sm cs = 0) (hp : pl < l.length) (hm : manyL l = (mn : Int)) :
    (anyR (truthAt cc l sm cs 0) 0 mn = false ∧ (bndR (shareL l) r cc l sm cs).2.2 = 9 ∧ (hitsR (pl : Int) r cc l sm cs).2.2 = 9) ∨
    (anyR (truthAt cc l sm cs 0) 0 mn = true ∧ (bndR (shareL l) r cc l sm cs).2.2 = 0 ∧ (hitsR (pl : Int) r cc l sm cs).2.2 = 0 ∧
      anyR (endP cc l sm cs (fun h => shareL l h) (bndR (shareL l) r cc l sm cs).1) 0 mn = true ∧ anyR (endP cc l sm cs (fun h => shareL l h) (bndR (shareL l) r cc l sm cs).2.1) 0 mn = true ∧
      anyR (endP cc l sm cs (fun h => h[pl]?.getD 0) (hitsR (pl : Int) r cc l sm cs).1) 0 mn = true ∧ anyR (endP cc l sm cs (fun h => h[pl]?.getD 0) (hitsR (pl : Int) r cc l sm cs).2.1) 0 mn = true) := by
  by_cases hG : genP (okP cs [] cc sm) l 0 [] = []
  · left
    refine ⟨?_, by rw [bnd_none hf hG], ?_⟩
    · cases h : anyR (truthAt cc l sm cs 0) 0 mn with
      | false => rfl
      | true =>
        obtain ⟨i, h1, h2, h3⟩ := (anyR_iff _ _ _).1 h
        have : nthG l (i : Int) ∈ genP (okP cs [] cc sm) l 0 [] := ((truths_ok hf).mem _).2 ⟨(i : Int), (pickR_mem _ _ _ _).2 ⟨i, by omega, by omega, h3, rfl⟩, rfl⟩
        rw [hG] at this; cases this
    · unfold hitsR
      rw [if_neg (by simp [inB]; omega), bnd_none hf hG]
  · right
    obtain ⟨lo, hi, h1, h2⟩ := bnd_span (F := shareL l) hf hG
    obtain ⟨lo2, hi2, h3, h4⟩ := hits_span (k := pl) hf hG hp
    rw [h1, h3]
    refine ⟨?_, rfl, rfl, end_reached hf hm h2.1, end_reached hf hm h2.2.1, end_reached hf hm h4.1, end_reached hf hm h4.2.1⟩
    have := end_reached (F := fun h => shareL l h) hf hm h2.1
    rw [anyR_iff] at this ⊢
    obtain ⟨i, a, b, c⟩ := this
    refine ⟨i, a, b, ?_⟩
    unfold endP at c
    rw [Bool.and_eq_true] at c
    exact c.1

set_option maxRecDepth 40000 in
set_option maxHeartbeats 16000000 in
theorem frameEnds_any (r cc : Int) (p : Option Addr) (n c : Nat) (l : List Int) (sm : Int) (q : Option Addr) (m d : Nat) (cs : List Cnt) (y : Int) (w : World) (hl : IntsAt w p n l) (hcs : CntsAt w q m cs) (hy : 0 ≤ y ∧ y ≤ 255) :
    Calls Try.prog 11 #[.agg #[.int .i64 r, .int .i64 cc, .slice p n c, .int .i64 sm, .slice q m d], .int .u8 y] w fun e w' => e = .returned (.bool true) ∧ Below w.heap.size w w' := by
  have HS1 := hid (SAt.start (r := r) (cc := cc) (c := c) (sm := sm) (d := d) hl hcs)
  have HY := hid hy
  clear hl hcs hy
  have g0 := HS1.out.c0; have g1 := HS1.out.c1; have g2 := HS1.out.c2; have g3 := HS1.out.c3; have g4 := HS1.out.c4
  obtain ⟨cb, hcb⟩ : ∃ a, (thinB n m && decide (faultL r cc l sm cs = 0)) = a := ⟨_, rfl⟩
  have HCB := hid hcb
  go_enter Try.func11, Try.ntmps11
  go_wp2_with fail
  refine (ready_any r cc p n c l sm q m d cs _ HS1.out.ints HS1.out.cnts).mono ?_
  rintro e w2 ⟨rfl, hb⟩
  have HS2 := hid (HS1.out.step hb)
  rw [hcb]
  clear hcb
  clear hb g0 g1 g2 g3 g4
  have g0 := HS2.out.c0; have g1 := HS2.out.c1; have g2 := HS2.out.c2; have g3 := HS2.out.c3; have g4 := HS2.out.c4
  cases cb with
  | true =>
    have hnm : n ≤ 12 ∧ m ≤ 9 := by have h := HCB.out; simp only [Bool.and_eq_true, thinB, decide_eq_true_eq] at h; exact h.1
    have HN := hid hnm
    clear hnm
    have hf : faultL r cc l sm cs = 0 := by have h := HCB.out; simp only [Bool.and_eq_true, decide_eq_true_eq] at h; exact h.2
    have HF := hid hf
    clear hf
    have HFF := hid (field_facts (fault0 HF.out).2.1)
    have HNL : Hid (n = l.length) := HS2.out.ints.1
    have hn1 : 1 ≤ n ∧ n ≤ 9 := by have := HFF.out.2.2.2.2.2.1; have := HFF.out.2.2.2.2.2.2.1; have := HNL.out; omega
    have HN1 := hid hn1
    obtain ⟨pi, hpi⟩ : ∃ a : Int, y % (n : Int) = a := ⟨_, rfl⟩
    have hpb : 0 ≤ pi ∧ pi < n := by rw [← hpi]; exact ⟨Int.emod_nonneg _ (by omega), Int.emod_lt_of_pos _ (by omega)⟩
    obtain ⟨pl, rfl⟩ : ∃ a : Nat, pi = (a : Int) := ⟨pi.toNat, by omega⟩
    have hpn : pl < n := by omega
    have HPN := hid hpn
    have e1 : IntKind.i64.wrap y = y := IntWalk.i64_in _ (by have := HY.out; omega)
    have e2 : ¬ (n : Int) = 0 := by omega
    have e3 : y.tmod (n : Int) = (pl : Int) := by rw [Int.tmod_eq_emod_of_nonneg HY.out.1]; exact hpi
    have e4 : IntKind.i64.wrap (pl : Int) = (pl : Int) := IntWalk.i64_in _ (by omega)
    clear hpi hpb hpn hn1
    go_wp2_with fail
    refine (surveyX_any r cc p n c l sm q m d cs _ HS2.out.ints HS2.out.cnts (by have := HN.out; omega) (by have := HN.out; omega)).mono ?_
    rintro e w3 ⟨p1, n1, c1, q1, m1, d1, rfl, hi3, hc3, hb⟩
    have HS3 := hid (HS2.out.step hb)
    have HI3 := hid hi3; have HC3 := hid hc3; clear hi3 hc3
    have HL1 : Hid (n1 ≤ 12 ∧ m1 ≤ 9) := ⟨by have := HI3.out.1; have := HS3.out.ints.1; have := HN.out; omega, by have := HC3.out.1; have := HS3.out.cnts.1; have := HN.out; omega⟩
    clear hb g0 g1 g2 g3 g4
    have g0 := HS3.out.c0; have g1 := HS3.out.c1; have g2 := HS3.out.c2; have g3 := HS3.out.c3; have g4 := HS3.out.c4
    clear e1 e2 e3 e4
    go_wp2_with fail
    refine (Bounds_any r cc p1 n1 c1 l sm q1 m1 d1 cs _ HI3.out HC3.out (by have := HL1.out; omega) (by have := HL1.out; omega)).mono ?_
    rintro e w4 ⟨rfl, hb⟩
    have HS4 := hid (HS3.out.step hb)
    obtain ⟨b1, hb1⟩ : ∃ a, (bndR (shareL l) r cc l sm cs).1 = a := ⟨_, rfl⟩
    obtain ⟨b2, hb2⟩ : ∃ a, (bndR (shareL l) r cc l sm cs).2.1 = a := ⟨_, rfl⟩
    obtain ⟨b3, hb3⟩ : ∃ a, (bndR (shareL l) r cc l sm cs).2.2 = a := ⟨_, rfl⟩
    rw [hb1, hb2, hb3]
    have HB1 := hid hb1; have HB2 := hid hb2; have HB3 := hid hb3
    clear hb1 hb2 hb3
    clear hb g0 g1 g2 g3 g4
    have g0 := HS4.out.c0; have g1 := HS4.out.c1; have g2 := HS4.out.c2; have g3 := HS4.out.c3; have g4 := HS4.out.c4
    obtain ⟨w5, hw⟩ : ∃ w5, w4.alloc (.cells #[.int .i64 b1, .int .i64 b2] 62) = w5 := ⟨_, rfl⟩
    have hb : Below w4.heap.size w4 w5 := by rw [← hw]; exact (Below.refl _ _).alloc (Nat.le_refl _) _
    have HS5 := hid (HS4.out.step hb)
    have HTB5 : Hid (TwoAt w5 w4.heap.size b1 b2) := by rw [← hw]; exact ⟨cell_box w4 _ 62 0 _ rfl, cell_box w4 _ 62 1 _ rfl⟩
    clear hb g0 g1 g2 g3 g4
    have g0 := HS5.out.c0; have g1 := HS5.out.c1; have g2 := HS5.out.c2; have g3 := HS5.out.c3; have g4 := HS5.out.c4
    go_wp2_with fail
    refine (surveyX_any r cc p n c l sm q m d cs _ HS5.out.ints HS5.out.cnts (by have := HN.out; omega) (by have := HN.out; omega)).mono ?_
    rintro e w6 ⟨p2, n2, c2, q2, m2, d2, rfl, hi3, hc3, hb⟩
    have HS6 := hid (HS5.out.step hb)
    have HTB6 := hid (HTB5.out.below hb)
    have HI6 := hid hi3; have HC6 := hid hc3; clear hi3 hc3
    have HL2 : Hid (n2 ≤ 12 ∧ m2 ≤ 9) := ⟨by have := HI6.out.1; have := HS6.out.ints.1; have := HN.out; omega, by have := HC6.out.1; have := HS6.out.cnts.1; have := HN.out; omega⟩
    clear hb g0 g1 g2 g3 g4
    have g0 := HS6.out.c0; have g1 := HS6.out.c1; have g2 := HS6.out.c2; have g3 := HS6.out.c3; have g4 := HS6.out.c4
    go_wp2_with fail
    refine (Hits_any r cc p2 n2 c2 l sm q2 m2 d2 cs (pl : Int) _ HI6.out HC6.out (by have := HL2.out; omega) (by have := HL2.out; omega)).mono ?_
    rintro e w7 ⟨rfl, hb⟩
    have HS7 := hid (HS6.out.step hb)
    have HTB7 := hid (HTB6.out.below hb)
    obtain ⟨h1, hb1⟩ : ∃ a, (hitsR (pl : Int) r cc l sm cs).1 = a := ⟨_, rfl⟩
    obtain ⟨h2, hb2⟩ : ∃ a, (hitsR (pl : Int) r cc l sm cs).2.1 = a := ⟨_, rfl⟩
    obtain ⟨h3, hb3⟩ : ∃ a, (hitsR (pl : Int) r cc l sm cs).2.2 = a := ⟨_, rfl⟩
    rw [hb1, hb2, hb3]
    have HH1 := hid hb1; have HH2 := hid hb2; have HH3 := hid hb3
    clear hb1 hb2 hb3
    clear hb g0 g1 g2 g3 g4
    have g0 := HS7.out.c0; have g1 := HS7.out.c1; have g2 := HS7.out.c2; have g3 := HS7.out.c3; have g4 := HS7.out.c4
    obtain ⟨w8, hw⟩ : ∃ w8, w7.alloc (.cells #[.int .i64 h1, .int .i64 h2] 62) = w8 := ⟨_, rfl⟩
    have hb : Below w7.heap.size w7 w8 := by rw [← hw]; exact (Below.refl _ _).alloc (Nat.le_refl _) _
    have HS8 := hid (HS7.out.step hb)
    have HTB8 := hid (HTB7.out.below hb)
    have HTH8 : Hid (TwoAt w8 w7.heap.size h1 h2) := by rw [← hw]; exact ⟨cell_box w7 _ 62 0 _ rfl, cell_box w7 _ 62 1 _ rfl⟩
    clear hb g0 g1 g2 g3 g4
    have g0 := HS8.out.c0; have g1 := HS8.out.c1; have g2 := HS8.out.c2; have g3 := HS8.out.c3; have g4 := HS8.out.c4
    obtain ⟨mn, hmn⟩ : ∃ a : Nat, manyL l = (a : Int) := ⟨(manyL l).toNat, by have := many_pos l HFF.out.2.2.2.2.2.2.2; omega⟩
    have HMN := hid hmn
    have HMB : Hid (1 ≤ mn ∧ mn ≤ 2000) := by have h1 := many_pos l HFF.out.2.2.2.2.2.2.2; have h2 := (fault0 HF.out).2.2.2.2; show 1 ≤ mn ∧ mn ≤ 2000; omega
    clear hmn
    go_wp2_with fail
    clear g0 g1 g2 g3 g4
    go_loopw [10, 11, 12, 13, 14, 15] (fun vL vH vS vM vA i wr => ∃ k : Nat, k ≤ mn ∧ i = .int .i64 k ∧ vL = .bool (anyR (endP cc l sm cs (fun h => shareL l h) b1) 0 k) ∧ vH = .bool (anyR (endP cc l sm cs (fun h => shareL l h) b2) 0 k) ∧ vS = .bool (anyR (endP cc l sm cs (fun h => h[pl]?.getD 0) h1) 0 k) ∧ vM = .bool (anyR (endP cc l sm cs (fun h => h[pl]?.getD 0) h2) 0 k) ∧ vA = .bool (anyR (truthAt cc l sm cs 0) 0 k) ∧ SAt w r cc p n c l sm q m d cs wr ∧ TwoAt wr (w4.heap.size) b1 b2 ∧ TwoAt wr (w7.heap.size) h1 h2) (fun _ _ _ _ _ i _ => mn - (intOf i).toNat)
    case atStart => exact ⟨0, by omega, rfl, rfl, rfl, rfl, rfl, rfl, HS8.out, HTB8.out, HTH8.out⟩
    case round =>
      obtain ⟨k, hk, rfl, rfl, rfl, rfl, rfl, rfl, hS, hB, hH⟩ := hrel
      have HS9 := hid hS; have HTB9 := hid hB; have HTH9 := hid hH
      clear hS hB hH
      obtain ⟨w9, hwr⟩ : ∃ a, wr = a := ⟨_, rfl⟩
      subst hwr
      obtain ⟨fL, hfL⟩ : ∃ a, anyR (endP cc l sm cs (fun h => shareL l h) b1) 0 k = a := ⟨_, rfl⟩
      have HFL := hid hfL
      rw [hfL]
      clear hfL
      obtain ⟨fH, hfH⟩ : ∃ a, anyR (endP cc l sm cs (fun h => shareL l h) b2) 0 k = a := ⟨_, rfl⟩
      have HFH := hid hfH
      rw [hfH]
      clear hfH
      obtain ⟨fS, hfS⟩ : ∃ a, anyR (endP cc l sm cs (fun h => h[pl]?.getD 0) h1) 0 k = a := ⟨_, rfl⟩
      have HFS := hid hfS
      rw [hfS]
      clear hfS
      obtain ⟨fM, hfM⟩ : ∃ a, anyR (endP cc l sm cs (fun h => h[pl]?.getD 0) h2) 0 k = a := ⟨_, rfl⟩
      have HFM := hid hfM
      rw [hfM]
      clear hfM
      obtain ⟨fA, hfA⟩ : ∃ a, anyR (truthAt cc l sm cs 0) 0 k = a := ⟨_, rfl⟩
      have HFA := hid hfA
      rw [hfA]
      clear hfA
      have g0 := HS9.out.c0; have g1 := HS9.out.c1; have g2 := HS9.out.c2; have g3 := HS9.out.c3; have g4 := HS9.out.c4
      go_wp2_with fail
      refine (many_any r cc p n c l _ HS9.out.ints (by have := HN.out; omega) HFF.out.2.2.2.2.2.2.2).mono ?_
      rintro e w10 ⟨rfl, hb⟩
      have HS10 := hid (HS9.out.step hb)
      have HTB10 := hid (HTB9.out.below hb)
      have HTH10 := hid (HTH9.out.below hb)
      rw [HMN.out]
      clear hb g0 g1 g2 g3 g4
      have g0 := HS10.out.c0; have g1 := HS10.out.c1; have g2 := HS10.out.c2; have g3 := HS10.out.c3; have g4 := HS10.out.c4
      by_cases hlt : k < mn
      · skip
        go_wp2_with fail
        refine (truthX_any r cc p n c l sm q m d cs (k : Int) _ HS10.out.ints HS10.out.cnts (oks_of HF.out) (by have := HN.out; omega) (by have := HMB.out; omega)).mono ?_
        rintro e w11 ⟨ph, ch, rfl, hi3, hb⟩
        have HS11 := hid (HS10.out.step hb)
        have HTB11 := hid (HTB10.out.below hb)
        have HTH11 := hid (HTH10.out.below hb)
        have hkm : (k : Int) % manyL l = (k : Int) := by rw [HMN.out]; exact Int.emod_eq_of_lt (by omega) (by omega)
        rw [hkm] at hi3 ⊢
        clear hkm
        obtain ⟨hh, hhe⟩ : ∃ a, nthG l (k : Int) = a := ⟨_, rfl⟩
        rw [hhe] at hi3 ⊢
        obtain ⟨tv, htv⟩ : ∃ a, isTruthB cc l sm cs hh 0 = a := ⟨_, rfl⟩
        rw [htv]
        have HH11 := hid hi3; have HTV : Hid (truthAt cc l sm cs 0 k = tv) := by show isTruthB _ _ _ _ (nthG l (k : Int)) _ = _; rw [hhe]; exact htv
        have HHE := hid hhe
        have HLI : Hid (isListedB l hh = true) := by rw [← hhe]; exact nth_listed l HFF.out.2.2.2.2.2.2.2 _
        clear hhe hi3 htv
        clear hb g0 g1 g2 g3 g4
        have g0 := HS11.out.c0; have g1 := HS11.out.c1; have g2 := HS11.out.c2; have g3 := HS11.out.c3; have g4 := HS11.out.c4
        cases tv with
        | true =>
          obtain ⟨bh, oh, hph, _, _⟩ := HH11.out.at HPN.out
          subst hph
          go_wp2_with fail
          refine (share_any r cc p n c l (some ⟨bh, oh, none⟩) ch hh _ HS11.out.ints HH11.out (by have := HN.out; omega) HFF.out.2.2.2.2.2.2.2 (listed_bd HLI.out HFF.out.2.2.2.2.2.2.2).2).mono ?_
          rintro e w12 ⟨rfl, hb⟩
          have HS12 := hid (HS11.out.step hb)
          have HTB12 := hid (HTB11.out.below hb)
          have HTH12 := hid (HTH11.out.below hb)
          have HH12 := hid (HH11.out.below hb)
          obtain ⟨sh, hsh⟩ : ∃ a, shareL l hh = a := ⟨_, rfl⟩
          rw [hsh]
          have HSH := hid hsh
          obtain ⟨hp, hhp⟩ : ∃ a, hh[pl]?.getD 0 = a := ⟨_, rfl⟩
          have HHP := hid hhp
          clear hsh hhp
          clear hb g0 g1 g2 g3 g4
          have g0 := HS12.out.c0; have g1 := HS12.out.c1; have g2 := HS12.out.c2; have g3 := HS12.out.c3; have g4 := HS12.out.c4
          have hpn : pl < n := HPN.out
          go_wp2_with fail
          refine wp_region_held_drew (S := fun V => SAt w r cc p n c l sm q m d cs V ∧ TwoAt V (w4.heap.size) b1 b2 ∧ TwoAt V (w7.heap.size) h1 h2 ∧ IntsAt V (some ⟨bh, oh, none⟩) n hh) (by kernel_rfl) (⟨HS12.out.drewN 1, HTB12.out, HTH12.out, HH12.out⟩) (fun hS => ?_)
          simp only [List.size_toArray, List.length_cons, List.length_nil, Nat.reduceAdd, Array.replicate_succ, Array.replicate_zero, List.push_toArray, List.nil_append, List.cons_append]
          refine wpAnyH_take (i := 0) (v := .bool fL) rfl (by kernel_rfl) (by kernel_rfl) (by kernel_rfl) (fun _ _ _ h => h) (Or.inl ⟨by rfl, fun V hV => by go_simp⟩) (by assumption) ?_
          try simp only [Act.put, List.getElem_toArray, List.getElem_cons_zero, List.setIfInBounds_toArray, List.set_cons_zero, List.set_cons_succ]
          refine wpAnyH_take (i := 1) (v := .bool fL) rfl (by kernel_rfl) (by kernel_rfl) (by kernel_rfl) (fun _ _ _ h => h) (Or.inl ⟨by rfl, fun V hV => by go_simp⟩) (by assumption) ?_
          try simp only [Act.put, List.getElem_toArray, List.getElem_cons_zero, List.getElem_cons_succ, List.setIfInBounds_toArray, List.set_cons_zero, List.set_cons_succ]
          refine wpAnyH_take (i := 7) (v := .bool fH) rfl (by kernel_rfl) (by kernel_rfl) (by kernel_rfl) (fun _ _ _ h => h) (Or.inl ⟨by rfl, fun V hV => by go_simp⟩) (by assumption) ?_
          try simp only [Act.put, List.getElem_toArray, List.getElem_cons_zero, List.getElem_cons_succ, List.setIfInBounds_toArray, List.set_cons_zero, List.set_cons_succ]
          refine wpAnyH_take (i := 8) (v := .bool fH) rfl (by kernel_rfl) (by kernel_rfl) (by kernel_rfl) (fun _ _ _ h => h) (Or.inl ⟨by rfl, fun V hV => by go_simp⟩) (by assumption) ?_
          try simp only [Act.put, List.getElem_toArray, List.getElem_cons_zero, List.getElem_cons_succ, List.setIfInBounds_toArray, List.set_cons_zero, List.set_cons_succ]
          refine wpAnyH_take (i := 14) (v := .bool fS) rfl (by kernel_rfl) (by kernel_rfl) (by kernel_rfl) (fun _ _ _ h => h) (Or.inl ⟨by rfl, fun V hV => by go_simp⟩) (by assumption) ?_
          try simp only [Act.put, List.getElem_toArray, List.getElem_cons_zero, List.getElem_cons_succ, List.setIfInBounds_toArray, List.set_cons_zero, List.set_cons_succ]
          refine wpAnyH_take (i := 15) (v := .bool fS) rfl (by kernel_rfl) (by kernel_rfl) (by kernel_rfl) (fun _ _ _ h => h) (Or.inl ⟨by rfl, fun V hV => by go_simp⟩) (by assumption) ?_
          try simp only [Act.put, List.getElem_toArray, List.getElem_cons_zero, List.getElem_cons_succ, List.setIfInBounds_toArray, List.set_cons_zero, List.set_cons_succ]
          refine wpAnyH_take (i := 24) (v := .bool fM) rfl (by kernel_rfl) (by kernel_rfl) (by kernel_rfl) (fun _ _ _ h => h) (Or.inl ⟨by rfl, fun V hV => by go_simp⟩) (by assumption) ?_
          try simp only [Act.put, List.getElem_toArray, List.getElem_cons_zero, List.getElem_cons_succ, List.setIfInBounds_toArray, List.set_cons_zero, List.set_cons_succ]
          refine wpAnyH_take (i := 25) (v := .bool fM) rfl (by kernel_rfl) (by kernel_rfl) (by kernel_rfl) (fun _ _ _ h => h) (Or.inl ⟨by rfl, fun V hV => by go_simp⟩) (by assumption) ?_
          try simp only [Act.put, List.getElem_toArray, List.getElem_cons_zero, List.getElem_cons_succ, List.setIfInBounds_toArray, List.set_cons_zero, List.set_cons_succ]
          refine wpAnyH_take (i := 34) (v := .bool true) rfl (by kernel_rfl) (by kernel_rfl) (by kernel_rfl) (fun _ _ _ h => h) (Or.inl ⟨by rfl, fun V hV => by go_simp⟩) (by assumption) ?_
          try simp only [Act.put, List.getElem_toArray, List.getElem_cons_zero, List.getElem_cons_succ, List.setIfInBounds_toArray, List.set_cons_zero, List.set_cons_succ]
          refine wpAnyH_take (i := 2) (v := bif fL then undef else .int .i64 sh) rfl (by kernel_rfl) (by kernel_rfl) (by kernel_rfl) (fun _ _ _ h => h) (by cases fL with
            | true => exact Or.inr ⟨by rfl, rfl⟩
            | false => exact Or.inl ⟨by rfl, fun V hV => by simp only [cond_false]; go_simp; try rfl⟩) (by assumption) ?_
          try simp only [Act.put, List.getElem_toArray, List.getElem_cons_zero, List.getElem_cons_succ, List.setIfInBounds_toArray, List.set_cons_zero, List.set_cons_succ]
          refine wpAnyH_take (i := 3) (v := bif fL then undef else .pointer (some ⟨(w4.heap.size), 0, none⟩)) rfl (by kernel_rfl) (by kernel_rfl) (by kernel_rfl) (fun _ _ _ h => h) (by cases fL with
            | true => exact Or.inr ⟨by rfl, rfl⟩
            | false => exact Or.inl ⟨by rfl, fun V hV => by simp only [cond_false]; go_simp; try rfl⟩) (by assumption) ?_
          try simp only [Act.put, List.getElem_toArray, List.getElem_cons_zero, List.getElem_cons_succ, List.setIfInBounds_toArray, List.set_cons_zero, List.set_cons_succ]
          refine wpAnyH_take (i := 4) (v := bif fL then undef else .int .i64 b1) rfl (by kernel_rfl) (by kernel_rfl) (by kernel_rfl) (fun _ _ _ h => h) (by cases fL with
            | true => exact Or.inr ⟨by rfl, rfl⟩
            | false => exact Or.inl ⟨by rfl, fun V hV => by have ⟨t0, t1⟩ := hV.2.1; simp only [cond_false]; go_simp; try rfl⟩) (by assumption) ?_
          try simp only [Act.put, List.getElem_toArray, List.getElem_cons_zero, List.getElem_cons_succ, List.setIfInBounds_toArray, List.set_cons_zero, List.set_cons_succ]
          refine wpAnyH_take (i := 5) (v := bif fL then undef else .bool (sh == b1)) rfl (by kernel_rfl) (by kernel_rfl) (by kernel_rfl) (fun _ _ _ h => h) (by cases fL with
            | true => exact Or.inr ⟨by rfl, rfl⟩
            | false => exact Or.inl ⟨by rfl, fun V hV => by simp only [cond_false]; go_simp; try rfl⟩) (by assumption) ?_
          try simp only [Act.put, List.getElem_toArray, List.getElem_cons_zero, List.getElem_cons_succ, List.setIfInBounds_toArray, List.set_cons_zero, List.set_cons_succ]
          refine wpAnyH_take (i := 6) (v := .bool (fL || (sh == b1))) rfl (by kernel_rfl) (by kernel_rfl) (by kernel_rfl) (fun _ _ _ h => h) (by cases fL with
            | true => exact Or.inl ⟨by rfl, fun V hV => by go_simp; try rfl⟩
            | false => exact Or.inl ⟨by rfl, fun V hV => by simp only [cond_false]; go_simp; try rfl⟩) (by assumption) ?_
          try simp only [Act.put, List.getElem_toArray, List.getElem_cons_zero, List.getElem_cons_succ, List.setIfInBounds_toArray, List.set_cons_zero, List.set_cons_succ]
          refine wpAnyH_take (i := 35) (v := .bool (fL || (sh == b1))) rfl (by kernel_rfl) (by kernel_rfl) (by kernel_rfl) (fun _ _ _ h => h) (Or.inl ⟨by rfl, fun V hV => by go_simp⟩) (by assumption) ?_
          try simp only [Act.put, List.getElem_toArray, List.getElem_cons_zero, List.getElem_cons_succ, List.setIfInBounds_toArray, List.set_cons_zero, List.set_cons_succ]
          refine wpAnyH_take (i := 9) (v := bif fH then undef else .int .i64 sh) rfl (by kernel_rfl) (by kernel_rfl) (by kernel_rfl) (fun _ _ _ h => h) (by cases fH with
            | true => exact Or.inr ⟨by rfl, rfl⟩
            | false => exact Or.inl ⟨by rfl, fun V hV => by simp only [cond_false]; go_simp; try rfl⟩) (by assumption) ?_
          try simp only [Act.put, List.getElem_toArray, List.getElem_cons_zero, List.getElem_cons_succ, List.setIfInBounds_toArray, List.set_cons_zero, List.set_cons_succ]
          refine wpAnyH_take (i := 10) (v := bif fH then undef else .pointer (some ⟨(w4.heap.size), 1, none⟩)) rfl (by kernel_rfl) (by kernel_rfl) (by kernel_rfl) (fun _ _ _ h => h) (by cases fH with
            | true => exact Or.inr ⟨by rfl, rfl⟩
            | false => exact Or.inl ⟨by rfl, fun V hV => by simp only [cond_false]; go_simp; try rfl⟩) (by assumption) ?_
          try simp only [Act.put, List.getElem_toArray, List.getElem_cons_zero, List.getElem_cons_succ, List.setIfInBounds_toArray, List.set_cons_zero, List.set_cons_succ]
          refine wpAnyH_take (i := 11) (v := bif fH then undef else .int .i64 b2) rfl (by kernel_rfl) (by kernel_rfl) (by kernel_rfl) (fun _ _ _ h => h) (by cases fH with
            | true => exact Or.inr ⟨by rfl, rfl⟩
            | false => exact Or.inl ⟨by rfl, fun V hV => by have ⟨t0, t1⟩ := hV.2.1; simp only [cond_false]; go_simp; try rfl⟩) (by assumption) ?_
          try simp only [Act.put, List.getElem_toArray, List.getElem_cons_zero, List.getElem_cons_succ, List.setIfInBounds_toArray, List.set_cons_zero, List.set_cons_succ]
          refine wpAnyH_take (i := 12) (v := bif fH then undef else .bool (sh == b2)) rfl (by kernel_rfl) (by kernel_rfl) (by kernel_rfl) (fun _ _ _ h => h) (by cases fH with
            | true => exact Or.inr ⟨by rfl, rfl⟩
            | false => exact Or.inl ⟨by rfl, fun V hV => by simp only [cond_false]; go_simp; try rfl⟩) (by assumption) ?_
          try simp only [Act.put, List.getElem_toArray, List.getElem_cons_zero, List.getElem_cons_succ, List.setIfInBounds_toArray, List.set_cons_zero, List.set_cons_succ]
          refine wpAnyH_take (i := 13) (v := .bool (fH || (sh == b2))) rfl (by kernel_rfl) (by kernel_rfl) (by kernel_rfl) (fun _ _ _ h => h) (by cases fH with
            | true => exact Or.inl ⟨by rfl, fun V hV => by go_simp; try rfl⟩
            | false => exact Or.inl ⟨by rfl, fun V hV => by simp only [cond_false]; go_simp; try rfl⟩) (by assumption) ?_
          try simp only [Act.put, List.getElem_toArray, List.getElem_cons_zero, List.getElem_cons_succ, List.setIfInBounds_toArray, List.set_cons_zero, List.set_cons_succ]
          refine wpAnyH_take (i := 36) (v := .bool (fH || (sh == b2))) rfl (by kernel_rfl) (by kernel_rfl) (by kernel_rfl) (fun _ _ _ h => h) (Or.inl ⟨by rfl, fun V hV => by go_simp⟩) (by assumption) ?_
          try simp only [Act.put, List.getElem_toArray, List.getElem_cons_zero, List.getElem_cons_succ, List.setIfInBounds_toArray, List.set_cons_zero, List.set_cons_succ]
          refine wpAnyH_take (i := 16) (v := bif fS then undef else .slice (some ⟨bh, oh, none⟩) n ch) rfl (by kernel_rfl) (by kernel_rfl) (by kernel_rfl) (fun _ _ _ h => h) (by cases fS with
            | true => exact Or.inr ⟨by rfl, rfl⟩
            | false => exact Or.inl ⟨by rfl, fun V hV => by simp only [cond_false]; go_simp; try rfl⟩) (by assumption) ?_
          try simp only [Act.put, List.getElem_toArray, List.getElem_cons_zero, List.getElem_cons_succ, List.setIfInBounds_toArray, List.set_cons_zero, List.set_cons_succ]
          refine wpAnyH_take (i := 17) (v := bif fS then undef else .int .i64 (pl : Int)) rfl (by kernel_rfl) (by kernel_rfl) (by kernel_rfl) (fun _ _ _ h => h) (by cases fS with
            | true => exact Or.inr ⟨by rfl, rfl⟩
            | false => exact Or.inl ⟨by rfl, fun V hV => by simp only [cond_false]; go_simp; try rfl⟩) (by assumption) ?_
          try simp only [Act.put, List.getElem_toArray, List.getElem_cons_zero, List.getElem_cons_succ, List.setIfInBounds_toArray, List.set_cons_zero, List.set_cons_succ]
          refine wpAnyH_take (i := 18) (v := bif fS then undef else .pointer (some ⟨bh, oh + pl, none⟩)) rfl (by kernel_rfl) (by kernel_rfl) (by kernel_rfl) (fun _ _ _ h => h) (by cases fS with
            | true => exact Or.inr ⟨by rfl, rfl⟩
            | false => exact Or.inl ⟨by rfl, fun V hV => by simp only [cond_false]; go_simp; try rfl⟩) (by assumption) ?_
          try simp only [Act.put, List.getElem_toArray, List.getElem_cons_zero, List.getElem_cons_succ, List.setIfInBounds_toArray, List.set_cons_zero, List.set_cons_succ]
          refine wpAnyH_take (i := 19) (v := bif fS then undef else .int .i64 hp) rfl (by kernel_rfl) (by kernel_rfl) (by kernel_rfl) (fun _ _ _ h => h) (by cases fS with
            | true => exact Or.inr ⟨by rfl, rfl⟩
            | false => exact Or.inl ⟨by rfl, fun V hV => by have hc := hV.2.2.2.get hpn; rw [HHP.out] at hc; simp only [cond_false]; go_simp; try rfl⟩) (by assumption) ?_
          try simp only [Act.put, List.getElem_toArray, List.getElem_cons_zero, List.getElem_cons_succ, List.setIfInBounds_toArray, List.set_cons_zero, List.set_cons_succ]
          refine wpAnyH_take (i := 20) (v := bif fS then undef else .pointer (some ⟨(w7.heap.size), 0, none⟩)) rfl (by kernel_rfl) (by kernel_rfl) (by kernel_rfl) (fun _ _ _ h => h) (by cases fS with
            | true => exact Or.inr ⟨by rfl, rfl⟩
            | false => exact Or.inl ⟨by rfl, fun V hV => by simp only [cond_false]; go_simp; try rfl⟩) (by assumption) ?_
          try simp only [Act.put, List.getElem_toArray, List.getElem_cons_zero, List.getElem_cons_succ, List.setIfInBounds_toArray, List.set_cons_zero, List.set_cons_succ]
          refine wpAnyH_take (i := 21) (v := bif fS then undef else .int .i64 h1) rfl (by kernel_rfl) (by kernel_rfl) (by kernel_rfl) (fun _ _ _ h => h) (by cases fS with
            | true => exact Or.inr ⟨by rfl, rfl⟩
            | false => exact Or.inl ⟨by rfl, fun V hV => by have ⟨u0, u1⟩ := hV.2.2.1; simp only [cond_false]; go_simp; try rfl⟩) (by assumption) ?_
          try simp only [Act.put, List.getElem_toArray, List.getElem_cons_zero, List.getElem_cons_succ, List.setIfInBounds_toArray, List.set_cons_zero, List.set_cons_succ]
          refine wpAnyH_take (i := 22) (v := bif fS then undef else .bool (hp == h1)) rfl (by kernel_rfl) (by kernel_rfl) (by kernel_rfl) (fun _ _ _ h => h) (by cases fS with
            | true => exact Or.inr ⟨by rfl, rfl⟩
            | false => exact Or.inl ⟨by rfl, fun V hV => by simp only [cond_false]; go_simp; try rfl⟩) (by assumption) ?_
          try simp only [Act.put, List.getElem_toArray, List.getElem_cons_zero, List.getElem_cons_succ, List.setIfInBounds_toArray, List.set_cons_zero, List.set_cons_succ]
          refine wpAnyH_take (i := 23) (v := .bool (fS || (hp == h1))) rfl (by kernel_rfl) (by kernel_rfl) (by kernel_rfl) (fun _ _ _ h => h) (by cases fS with
            | true => exact Or.inl ⟨by rfl, fun V hV => by go_simp; try rfl⟩
            | false => exact Or.inl ⟨by rfl, fun V hV => by simp only [cond_false]; go_simp; try rfl⟩) (by assumption) ?_
          try simp only [Act.put, List.getElem_toArray, List.getElem_cons_zero, List.getElem_cons_succ, List.setIfInBounds_toArray, List.set_cons_zero, List.set_cons_succ]
          refine wpAnyH_take (i := 37) (v := .bool (fS || (hp == h1))) rfl (by kernel_rfl) (by kernel_rfl) (by kernel_rfl) (fun _ _ _ h => h) (Or.inl ⟨by rfl, fun V hV => by go_simp⟩) (by assumption) ?_
          try simp only [Act.put, List.getElem_toArray, List.getElem_cons_zero, List.getElem_cons_succ, List.setIfInBounds_toArray, List.set_cons_zero, List.set_cons_succ]
          refine wpAnyH_take (i := 26) (v := bif fM then undef else .slice (some ⟨bh, oh, none⟩) n ch) rfl (by kernel_rfl) (by kernel_rfl) (by kernel_rfl) (fun _ _ _ h => h) (by cases fM with
            | true => exact Or.inr ⟨by rfl, rfl⟩
            | false => exact Or.inl ⟨by rfl, fun V hV => by simp only [cond_false]; go_simp; try rfl⟩) (by assumption) ?_
          try simp only [Act.put, List.getElem_toArray, List.getElem_cons_zero, List.getElem_cons_succ, List.setIfInBounds_toArray, List.set_cons_zero, List.set_cons_succ]
          refine wpAnyH_take (i := 27) (v := bif fM then undef else .int .i64 (pl : Int)) rfl (by kernel_rfl) (by kernel_rfl) (by kernel_rfl) (fun _ _ _ h => h) (by cases fM with
            | true => exact Or.inr ⟨by rfl, rfl⟩
            | false => exact Or.inl ⟨by rfl, fun V hV => by simp only [cond_false]; go_simp; try rfl⟩) (by assumption) ?_
          try simp only [Act.put, List.getElem_toArray, List.getElem_cons_zero, List.getElem_cons_succ, List.setIfInBounds_toArray, List.set_cons_zero, List.set_cons_succ]
          refine wpAnyH_take (i := 28) (v := bif fM then undef else .pointer (some ⟨bh, oh + pl, none⟩)) rfl (by kernel_rfl) (by kernel_rfl) (by kernel_rfl) (fun _ _ _ h => h) (by cases fM with
            | true => exact Or.inr ⟨by rfl, rfl⟩
            | false => exact Or.inl ⟨by rfl, fun V hV => by simp only [cond_false]; go_simp; try rfl⟩) (by assumption) ?_
          try simp only [Act.put, List.getElem_toArray, List.getElem_cons_zero, List.getElem_cons_succ, List.setIfInBounds_toArray, List.set_cons_zero, List.set_cons_succ]
          refine wpAnyH_take (i := 29) (v := bif fM then undef else .int .i64 hp) rfl (by kernel_rfl) (by kernel_rfl) (by kernel_rfl) (fun _ _ _ h => h) (by cases fM with
            | true => exact Or.inr ⟨by rfl, rfl⟩
            | false => exact Or.inl ⟨by rfl, fun V hV => by have hc := hV.2.2.2.get hpn; rw [HHP.out] at hc; simp only [cond_false]; go_simp; try rfl⟩) (by assumption) ?_
          try simp only [Act.put, List.getElem_toArray, List.getElem_cons_zero, List.getElem_cons_succ, List.setIfInBounds_toArray, List.set_cons_zero, List.set_cons_succ]
          refine wpAnyH_take (i := 30) (v := bif fM then undef else .pointer (some ⟨(w7.heap.size), 1, none⟩)) rfl (by kernel_rfl) (by kernel_rfl) (by kernel_rfl) (fun _ _ _ h => h) (by cases fM with
            | true => exact Or.inr ⟨by rfl, rfl⟩
            | false => exact Or.inl ⟨by rfl, fun V hV => by simp only [cond_false]; go_simp; try rfl⟩) (by assumption) ?_
          try simp only [Act.put, List.getElem_toArray, List.getElem_cons_zero, List.getElem_cons_succ, List.setIfInBounds_toArray, List.set_cons_zero, List.set_cons_succ]
          refine wpAnyH_take (i := 31) (v := bif fM then undef else .int .i64 h2) rfl (by kernel_rfl) (by kernel_rfl) (by kernel_rfl) (fun _ _ _ h => h) (by cases fM with
            | true => exact Or.inr ⟨by rfl, rfl⟩
            | false => exact Or.inl ⟨by rfl, fun V hV => by have ⟨u0, u1⟩ := hV.2.2.1; simp only [cond_false]; go_simp; try rfl⟩) (by assumption) ?_
          try simp only [Act.put, List.getElem_toArray, List.getElem_cons_zero, List.getElem_cons_succ, List.setIfInBounds_toArray, List.set_cons_zero, List.set_cons_succ]
          refine wpAnyH_take (i := 32) (v := bif fM then undef else .bool (hp == h2)) rfl (by kernel_rfl) (by kernel_rfl) (by kernel_rfl) (fun _ _ _ h => h) (by cases fM with
            | true => exact Or.inr ⟨by rfl, rfl⟩
            | false => exact Or.inl ⟨by rfl, fun V hV => by simp only [cond_false]; go_simp; try rfl⟩) (by assumption) ?_
          try simp only [Act.put, List.getElem_toArray, List.getElem_cons_zero, List.getElem_cons_succ, List.setIfInBounds_toArray, List.set_cons_zero, List.set_cons_succ]
          refine wpAnyH_take (i := 33) (v := .bool (fM || (hp == h2))) rfl (by kernel_rfl) (by kernel_rfl) (by kernel_rfl) (fun _ _ _ h => h) (by cases fM with
            | true => exact Or.inl ⟨by rfl, fun V hV => by go_simp; try rfl⟩
            | false => exact Or.inl ⟨by rfl, fun V hV => by simp only [cond_false]; go_simp; try rfl⟩) (by assumption) ?_
          try simp only [Act.put, List.getElem_toArray, List.getElem_cons_zero, List.getElem_cons_succ, List.setIfInBounds_toArray, List.set_cons_zero, List.set_cons_succ]
          refine wpAnyH_take (i := 38) (v := .bool (fM || (hp == h2))) rfl (by kernel_rfl) (by kernel_rfl) (by kernel_rfl) (fun _ _ _ h => h) (Or.inl ⟨by rfl, fun V hV => by go_simp⟩) (by assumption) ?_
          try simp only [Act.put, List.getElem_toArray, List.getElem_cons_zero, List.getElem_cons_succ, List.setIfInBounds_toArray, List.set_cons_zero, List.set_cons_succ]
          refine wpAnyH_done (by kernel_rfl) ?_ _
          have HSX := hid hS
          clear hS
          have hmn := HMB.out.2
          go_wp2
          go_roundw
          case rel => exact ⟨k + 1, by omega, by go_num, (by show Value.bool _ = _; rw [any_snoc, HFL.out, endP_true HTV.out HHE.out, HSH.out]), (by show Value.bool _ = _; rw [any_snoc, HFH.out, endP_true HTV.out HHE.out, HSH.out]), (by show Value.bool _ = _; rw [any_snoc, HFS.out, endP_true HTV.out HHE.out, HHP.out]), (by show Value.bool _ = _; rw [any_snoc, HFM.out, endP_true HTV.out HHE.out, HHP.out]), (by show Value.bool _ = _; rw [any_snoc, HTV.out, Bool.or_true]), HSX.out.1, HSX.out.2.1, HSX.out.2.2.1⟩
          case measure => simp [intOf]; omega
        | false =>
          have hmn := HMB.out.2
          go_wp2
          go_roundw
          case rel => exact ⟨k + 1, by omega, by go_num, (by show Value.bool _ = _; rw [any_snoc, endP_false HTV.out, HFL.out, Bool.or_false]), (by show Value.bool _ = _; rw [any_snoc, endP_false HTV.out, HFH.out, Bool.or_false]), (by show Value.bool _ = _; rw [any_snoc, endP_false HTV.out, HFS.out, Bool.or_false]), (by show Value.bool _ = _; rw [any_snoc, endP_false HTV.out, HFM.out, Bool.or_false]), (by show Value.bool _ = _; rw [any_snoc, HTV.out, HFA.out, Bool.or_false]), HS11.out, HTB11.out, HTH11.out⟩
          case measure => simp [intOf]; omega
      · skip
        obtain rfl : mn = k := by omega
        have hends := ends_all (pl := pl) HF.out (by have := HPN.out; have := HNL.out; omega) HMN.out
        rw [HB1.out, HB2.out, HB3.out, HH1.out, HH2.out, HH3.out, HFA.out, HFL.out, HFH.out, HFS.out, HFM.out] at hends
        rcases hends with ⟨rfl, rfl, rfl⟩ | ⟨rfl, rfl, rfl, rfl, rfl, rfl, rfl⟩
        · skip
          go_wp2_with fail
          refine (awake_any _).mono ?_
          rintro e w99 ⟨rfl, hb⟩
          go_wp2_with fail
          go_ret
          exact ⟨rfl, HS10.out.below.trans (hb.mono HS10.out.below.size)⟩
        · skip
          go_wp2_with fail
          refine (awake_any _).mono ?_
          rintro e w99 ⟨rfl, hb⟩
          go_wp2_with fail
          go_ret
          exact ⟨rfl, HS10.out.below.trans (hb.mono HS10.out.below.size)⟩
  | false =>
    go_wp2_with fail
    refine (awake_any _).mono ?_
    rintro e w99 ⟨rfl, hb⟩
    go_wp2_with fail
    go_ret
    exact ⟨rfl, HS2.out.below.trans (hb.mono HS2.out.below.size)⟩
end Go.Proofs.Ytlicijnaacdceaa
