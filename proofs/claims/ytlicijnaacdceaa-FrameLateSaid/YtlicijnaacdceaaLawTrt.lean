/- FrameTruth returns true, whatever its arguments are. No condition. -/
import Derived.Test.YtlicijnaacdceaaLawPar
import Derived.Test.YtlicijnaacdceaaLawShr
import Derived.Test.YtlicijnaacdceaaLawTru
namespace Go.Proofs.Ytlicijnaacdceaa
open Go.RowKit

theorem IntsAt.get {V : World} {b o n : Nat} {l : List Int} (h : IntsAt V (some ⟨b, o, none⟩) n l) {k : Nat} (hk : k < n) : V.cell? ⟨b, o + k, none⟩ = some (.int .i64 (l[k]?.getD 0)) := by
  obtain ⟨b', o', e, hc⟩ := h.2 k hk
  cases e
  exact hc

section
variable {r cc : Int} {l : List Int} {sm : Int} {cs : List Cnt}
theorem truth_gen (hf : faultL r cc l sm cs = 0) (x : List Int) : x ∈ genP (okP cs [] cc sm) l 0 [] ↔ isTruthB cc l sm cs x 0 = true := by
  obtain ⟨h1, h2, h3, h4, h5⟩ := fault0 hf
  exact genP_truth (field_facts h2).2.2.1 h4 (outIs_nil _) x

theorem share_ok {th : List Int} (hf : faultL r cc l sm cs = 0) (h : isListedB l th = true) : shareE r cc l sm cs th = 0 ∧ shareV r cc l sm cs th = shareL l th := by
  have e : shareE r cc l sm cs th = 0 := by unfold shareE; rw [if_pos hf, if_pos h]
  exact ⟨e, by unfold shareV; rw [if_pos e]⟩

/-- Nothing has to be left out where there is a truth. -/
theorem leave_none {X : List Int} (hf : faultL r cc l sm cs = 0) (hG : genP (okP cs [] cc sm) l 0 [] ≠ []) (hX : if faultL r cc l sm cs = 0 then First (leftB cc l sm cs) cs.length X else X = []) : X = [] := by
  rw [if_pos hf] at hX
  refine hX.unique ⟨trivial, ?_, fun y _ _ => by cases y <;> simp [shorterB, beforeB]⟩
  unfold leftB
  cases h : genP (okP cs [] cc sm) l 0 [] with
  | nil => exact absurd h hG
  | cons _ _ => rfl

theorem hits_span {k : Nat} (hf : faultL r cc l sm cs = 0) (hG : genP (okP cs [] cc sm) l 0 [] ≠ []) (hk : k < l.length) :
    ∃ lo hi, hitsR (k : Int) r cc l sm cs = (lo, hi, 0) ∧ Span (fun x => x[k]?.getD 0) (genP (okP cs [] cc sm) l 0 []) lo hi := by
  obtain ⟨lo, hi, h1, h2⟩ := bnd_span (F := fun x => x[k]?.getD 0) hf hG
  refine ⟨lo, hi, ?_, h2⟩
  unfold hitsR
  rw [if_neg (by simp [inB]; omega), Int.toNat_natCast]
  exact h1
end

set_option maxRecDepth 40000 in
set_option maxHeartbeats 16000000 in
theorem frameTruth_any (r cc : Int) (p : Option Addr) (n c : Nat) (l : List Int) (sm : Int) (q : Option Addr) (m d : Nat) (cs : List Cnt) (x y : Int) (w : World) (hl : IntsAt w p n l) (hcs : CntsAt w q m cs) (hx : 0 ≤ x ∧ x ≤ 65535) (hy : 0 ≤ y ∧ y ≤ 255) :
    Calls Try.prog 15 #[.agg #[.int .i64 r, .int .i64 cc, .slice p n c, .int .i64 sm, .slice q m d], .int .u16 x, .int .u8 y] w fun e w' => e = .returned (.bool true) ∧ Below w.heap.size w w' := by
  have HS1 := hid (SAt.start (r := r) (cc := cc) (c := c) (sm := sm) (d := d) hl hcs)
  have HX := hid hx; have HY := hid hy
  clear hl hcs hx hy
  have g0 := HS1.out.c0; have g1 := HS1.out.c1; have g2 := HS1.out.c2; have g3 := HS1.out.c3; have g4 := HS1.out.c4
  obtain ⟨cb, hcb⟩ : ∃ a, (thinB n m && decide (faultL r cc l sm cs = 0)) = a := ⟨_, rfl⟩
  have HCB := hid hcb
  go_enter Try.func15, Try.ntmps15
  go_wp2_with fail
  refine (ready_any r cc p n c l sm q m d cs _ HS1.out.ints HS1.out.cnts).mono ?_
  rintro e w2 ⟨rfl, hb⟩
  have HS2 := hid (HS1.out.step hb)
  rw [hcb]
  clear hcb
  clear hb g0 g1 g2 g3 g4
  have g0 := HS2.out.c0; have g1 := HS2.out.c1; have g2 := HS2.out.c2; have g3 := HS2.out.c3; have g4 := HS2.out.c4
  cases cb with
  | true =>
    have hnm : n ≤ 12 ∧ m ≤ 9 := by have h := HCB.out; simp only [Bool.and_eq_true, thinB, decide_eq_true_eq] at h; exact h.1
    have HN := hid hnm
    clear hnm
    have hf : faultL r cc l sm cs = 0 := by have h := HCB.out; simp only [Bool.and_eq_true, decide_eq_true_eq] at h; exact h.2
    have HF := hid hf
    clear hf
    have e1 : IntKind.i64.wrap x = x := IntWalk.i64_in _ (by have := HX.out; omega)
    go_wp2_with fail
    refine (truthX_any r cc p n c l sm q m d cs x _ HS2.out.ints HS2.out.cnts (oks_of HF.out) (by have := HN.out; omega) (by have := HX.out; omega)).mono ?_
    rintro e w3 ⟨ph, ch, rfl, hi3, hb⟩
    have HS3 := hid (HS2.out.step hb)
    obtain ⟨hh, hhe⟩ : ∃ a, nthG l (x % manyL l) = a := ⟨_, rfl⟩
    rw [hhe] at hi3 ⊢
    obtain ⟨tv, htv⟩ : ∃ a, isTruthB cc l sm cs hh 0 = a := ⟨_, rfl⟩
    rw [htv]
    have HH3 := hid hi3; have HTV := hid htv
    clear hhe hi3 htv e1
    clear hb g0 g1 g2 g3 g4
    have g0 := HS3.out.c0; have g1 := HS3.out.c1; have g2 := HS3.out.c2; have g3 := HS3.out.c3; have g4 := HS3.out.c4
    obtain ⟨n0, hn0⟩ : ∃ a, y % 101 = a := ⟨_, rfl⟩
    have HNB : Hid (0 ≤ n0 ∧ n0 ≤ 100) := by show _ ∧ _; omega
    have e2 : IntKind.i64.wrap y = y := IntWalk.i64_in _ (by have := HY.out; omega)
    have e4 : y.tmod 101 = n0 := by rw [Int.tmod_eq_emod_of_nonneg HY.out.1]; exact hn0
    have e5 : IntKind.i64.wrap n0 = n0 := IntWalk.i64_in _ (by have := HNB.out; omega)
    clear hn0
    go_wp2_with fail
    refine (surveyX_any r cc p n c l sm q m d cs _ HS3.out.ints HS3.out.cnts (by have := HN.out; omega) (by have := HN.out; omega)).mono ?_
    rintro e w4 ⟨p1, n1, c1, q1, m1, d1, rfl, hi3, hc3, hb⟩
    have HS4 := hid (HS3.out.step hb)
    have HH4 := hid (HH3.out.below hb)
    have HI4 := hid hi3; have HC4 := hid hc3; clear hi3 hc3
    have HL1 : Hid (n1 ≤ 12 ∧ m1 ≤ 9) := ⟨by have := HI4.out.1; have := HS4.out.ints.1; have := HN.out; omega, by have := HC4.out.1; have := HS4.out.cnts.1; have := HN.out; omega⟩
    clear hb g0 g1 g2 g3 g4
    have g0 := HS4.out.c0; have g1 := HS4.out.c1; have g2 := HS4.out.c2; have g3 := HS4.out.c3; have g4 := HS4.out.c4
    clear e2 e4 e5
    go_wp2_with fail
    refine (list_any ph n ch hh _ HH4.out (by have := HN.out; omega)).mono ?_
    rintro e w5 ⟨v1, rfl, ho, hb⟩
    have HS5 := hid (HS4.out.step hb)
    have HH5 := hid (HH4.out.below hb)
    have HI5 := hid (HI4.out.below hb)
    have HC5 := hid (HC4.out.below hb)
    obtain ⟨pl1, cl1, rfl, h6⟩ := ho.slice
    have hhl : hh.length = n := HH5.out.1.symm
    rw [hhl] at h6 ⊢
    have HV5 := hid h6
    clear ho h6 hhl
    clear hb g0 g1 g2 g3 g4
    have g0 := HS5.out.c0; have g1 := HS5.out.c1; have g2 := HS5.out.c2; have g3 := HS5.out.c3; have g4 := HS5.out.c4
    go_wp2_with fail
    refine (proveTruth_any r cc p1 n1 c1 l sm q1 m1 d1 cs pl1 n cl1 hh _ HI5.out HC5.out HV5.out (by have := HL1.out; omega) (by have := HL1.out; omega) (by have := HN.out; omega)).mono ?_
    rintro e w6 ⟨rfl, hb⟩
    have HS6 := hid (HS5.out.step hb)
    have HH6 := hid (HH5.out.below hb)
    rw [prove_truth HF.out, HTV.out]
    clear hb g0 g1 g2 g3 g4
    have g0 := HS6.out.c0; have g1 := HS6.out.c1; have g2 := HS6.out.c2; have g3 := HS6.out.c3; have g4 := HS6.out.c4
    cases tv with
    | true =>
      have HG : Hid (hh ∈ genP (okP cs [] cc sm) l 0 []) := (truth_gen HF.out hh).2 HTV.out
      have HSH := hid (show shareE r cc l sm cs hh = 0 ∧ shareV r cc l sm cs hh = shareL l hh from share_ok HF.out (genP_listed HG.out))
      have hne : genP (okP cs [] cc sm) l 0 [] ≠ [] := fun e => by have h := HG.out; rw [e] at h; cases h
      obtain ⟨lo, hi, hsp, hlo, hab⟩ := above_span HF.out hne
      have HAB := hid hab
      have hb0 : bndR (shareL l) r cc l sm cs = (lo, hi, 0) := by obtain ⟨lo2, hi2, h1, h2⟩ := bnd_span (F := shareL l) HF.out hne; obtain ⟨rfl, rfl⟩ := hsp.unique h2; exact h1
      have HBB := hid hb0
      obtain ⟨sh, hsh⟩ : ∃ a, shareL l hh = a := ⟨_, rfl⟩
      have HB3 : Hid (lo ≤ sh ∧ sh ≤ hi) := by have h := hsp.2.2 hh HG.out; rw [hsh] at h; exact h
      rw [hsh] at HSH
      have HNE := hid hne
      clear hne hsp hlo hab hb0 hsh
      go_wp2_with fail
      refine (surveyX_any r cc p n c l sm q m d cs _ HS6.out.ints HS6.out.cnts (by have := HN.out; omega) (by have := HN.out; omega)).mono ?_
      rintro e w7 ⟨p2, n2, c2, q2, m2, d2, rfl, hi3, hc3, hb⟩
      have HS7 := hid (HS6.out.step hb)
      have HH7 := hid (HH6.out.below hb)
      have HI7 := hid hi3; have HC7 := hid hc3; clear hi3 hc3
      have HL2 : Hid (n2 ≤ 12 ∧ m2 ≤ 9) := ⟨by have := HI7.out.1; have := HS7.out.ints.1; have := HN.out; omega, by have := HC7.out.1; have := HS7.out.cnts.1; have := HN.out; omega⟩
      clear hb g0 g1 g2 g3 g4
      have g0 := HS7.out.c0; have g1 := HS7.out.c1; have g2 := HS7.out.c2; have g3 := HS7.out.c3; have g4 := HS7.out.c4
      go_wp2_with fail
      refine (list_any ph n ch hh _ HH7.out (by have := HN.out; omega)).mono ?_
      rintro e w8 ⟨v2, rfl, ho, hb⟩
      have HS8 := hid (HS7.out.step hb)
      have HH8 := hid (HH7.out.below hb)
      have HI8 := hid (HI7.out.below hb)
      have HC8 := hid (HC7.out.below hb)
      obtain ⟨pl2, cl2, rfl, h6⟩ := ho.slice
      have hhl : hh.length = n := HH8.out.1.symm
      rw [hhl] at h6 ⊢
      have HV8 := hid h6
      clear ho h6 hhl
      clear hb g0 g1 g2 g3 g4
      have g0 := HS8.out.c0; have g1 := HS8.out.c1; have g2 := HS8.out.c2; have g3 := HS8.out.c3; have g4 := HS8.out.c4
      go_wp2_with fail
      refine (Share_any r cc p2 n2 c2 l sm q2 m2 d2 cs pl2 n cl2 hh _ HI8.out HC8.out HV8.out (by have := HL2.out; omega) (by have := HL2.out; omega) (by have := HN.out; omega)).mono ?_
      rintro e w9 ⟨rfl, hb⟩
      have HS9 := hid (HS8.out.step hb)
      have HH9 := hid (HH8.out.below hb)
      rw [HSH.out.1, HSH.out.2]
      clear hb g0 g1 g2 g3 g4
      have g0 := HS9.out.c0; have g1 := HS9.out.c1; have g2 := HS9.out.c2; have g3 := HS9.out.c3; have g4 := HS9.out.c4
      go_wp2_with fail
      refine (surveyX_any r cc p n c l sm q m d cs _ HS9.out.ints HS9.out.cnts (by have := HN.out; omega) (by have := HN.out; omega)).mono ?_
      rintro e w10 ⟨p3, n3, c3, q3, m3, d3, rfl, hi3, hc3, hb⟩
      have HS10 := hid (HS9.out.step hb)
      have HH10 := hid (HH9.out.below hb)
      have HI10 := hid hi3; have HC10 := hid hc3; clear hi3 hc3
      have HL3 : Hid (n3 ≤ 12 ∧ m3 ≤ 9) := ⟨by have := HI10.out.1; have := HS10.out.ints.1; have := HN.out; omega, by have := HC10.out.1; have := HS10.out.cnts.1; have := HN.out; omega⟩
      clear hb g0 g1 g2 g3 g4
      have g0 := HS10.out.c0; have g1 := HS10.out.c1; have g2 := HS10.out.c2; have g3 := HS10.out.c3; have g4 := HS10.out.c4
      go_wp2_with fail
      refine (Bounds_any r cc p3 n3 c3 l sm q3 m3 d3 cs _ HI10.out HC10.out (by have := HL3.out; omega) (by have := HL3.out; omega)).mono ?_
      rintro e w11 ⟨rfl, hb⟩
      have HS11 := hid (HS10.out.step hb)
      have HH11 := hid (HH10.out.below hb)
      rw [HBB.out]
      clear hb g0 g1 g2 g3 g4
      have g0 := HS11.out.c0; have g1 := HS11.out.c1; have g2 := HS11.out.c2; have g3 := HS11.out.c3; have g4 := HS11.out.c4
      obtain ⟨w12, hw⟩ : ∃ w12, w11.alloc (.cells #[.int .i64 lo, .int .i64 hi] 62) = w12 := ⟨_, rfl⟩
      have hb : Below w11.heap.size w11 w12 := by rw [← hw]; exact (Below.refl _ _).alloc (Nat.le_refl _) _
      have HS12 := hid (HS11.out.step hb)
      have HH12 := hid (HH11.out.below hb)
      have HTB12 : Hid (TwoAt w12 w11.heap.size lo hi) := by rw [← hw]; exact ⟨cell_box w11 _ 62 0 _ rfl, cell_box w11 _ 62 1 _ rfl⟩
      clear hb g0 g1 g2 g3 g4
      have g0 := HS12.out.c0; have g1 := HS12.out.c1; have g2 := HS12.out.c2; have g3 := HS12.out.c3; have g4 := HS12.out.c4
      go_wp2_with fail
      refine (surveyX_any r cc p n c l sm q m d cs _ HS12.out.ints HS12.out.cnts (by have := HN.out; omega) (by have := HN.out; omega)).mono ?_
      rintro e w13 ⟨p4, n4, c4, q4, m4, d4, rfl, hi3, hc3, hb⟩
      have HS13 := hid (HS12.out.step hb)
      have HH13 := hid (HH12.out.below hb)
      have HTB13 := hid (HTB12.out.below hb)
      have HI13 := hid hi3; have HC13 := hid hc3; clear hi3 hc3
      have HL4 : Hid (n4 ≤ 12 ∧ m4 ≤ 9) := ⟨by have := HI13.out.1; have := HS13.out.ints.1; have := HN.out; omega, by have := HC13.out.1; have := HS13.out.cnts.1; have := HN.out; omega⟩
      clear hb g0 g1 g2 g3 g4
      have g0 := HS13.out.c0; have g1 := HS13.out.c1; have g2 := HS13.out.c2; have g3 := HS13.out.c3; have g4 := HS13.out.c4
      go_wp2_with fail
      refine (Above_any r cc p4 n4 c4 l sm q4 m4 d4 cs n0 _ HI13.out HC13.out (by have := HL4.out; omega) (by have := HL4.out; omega)).mono ?_
      rintro e w14 ⟨rfl, hb⟩
      have HS14 := hid (HS13.out.step hb)
      have HH14 := hid (HH13.out.below hb)
      have HTB14 := hid (HTB13.out.below hb)
      rw [HAB.out n0 (by have := HNB.out; omega) (by have := HNB.out; omega)]
      obtain ⟨v, hv⟩ : ∃ a, verdictL lo hi n0 = a := ⟨_, rfl⟩
      rw [hv]
      have HVD := hid hv
      clear hv
      clear hb g0 g1 g2 g3 g4
      have g0 := HS14.out.c0; have g1 := HS14.out.c1; have g2 := HS14.out.c2; have g3 := HS14.out.c3; have g4 := HS14.out.c4
      go_wp2_with fail
      refine (surveyX_any r cc p n c l sm q m d cs _ HS14.out.ints HS14.out.cnts (by have := HN.out; omega) (by have := HN.out; omega)).mono ?_
      rintro e w15 ⟨p5, n5, c5, q5, m5, d5, rfl, hi3, hc3, hb⟩
      have HS15 := hid (HS14.out.step hb)
      have HH15 := hid (HH14.out.below hb)
      have HTB15 := hid (HTB14.out.below hb)
      have HI15 := hid hi3; have HC15 := hid hc3; clear hi3 hc3
      have HL5 : Hid (n5 ≤ 12 ∧ m5 ≤ 9) := ⟨by have := HI15.out.1; have := HS15.out.ints.1; have := HN.out; omega, by have := HC15.out.1; have := HS15.out.cnts.1; have := HN.out; omega⟩
      clear hb g0 g1 g2 g3 g4
      have g0 := HS15.out.c0; have g1 := HS15.out.c1; have g2 := HS15.out.c2; have g3 := HS15.out.c3; have g4 := HS15.out.c4
      go_wp2_with fail
      refine (Leave_any r cc p5 n5 c5 l sm q5 m5 d5 cs _ HI15.out HC15.out (by have := HL5.out; omega) (by have := HL5.out; omega)).mono ?_
      rintro e w16 ⟨px, nx, cx, X, rfl, hx, hX, hb⟩
      have HS16 := hid (HS15.out.step hb)
      have HH16 := hid (HH15.out.below hb)
      have HTB16 := hid (HTB15.out.below hb)
      have hXe : X = [] := leave_none HF.out HNE.out hX
      subst hXe
      obtain rfl : nx = 0 := hx.1
      clear hx hX
      rw [HF.out]
      clear hb g0 g1 g2 g3 g4
      have g0 := HS16.out.c0; have g1 := HS16.out.c1; have g2 := HS16.out.c2; have g3 := HS16.out.c3; have g4 := HS16.out.c4
      have ⟨t0, t1⟩ := HTB16.out
      have h1 : ¬ sh < lo := by have := HB3.out; omega
      have h2 : ¬ hi < sh := by have := HB3.out; omega
      have hcase : (v = 1 ∧ ¬ sh < n0) ∨ (v = 2 ∧ ¬ n0 ≤ sh) ∨ v = 3 := by
        rw [← HVD.out]
        have h3 := HB3.out
        unfold verdictL
        repeat' split
        all_goals omega
      rcases hcase with ⟨rfl, hc⟩ | ⟨rfl, hc⟩ | rfl
      · skip
        go_wp2_with fail
        refine (in_any _ _ _ _).mono ?_
        rintro e w95 ⟨rfl, rfl⟩
        rw [show inB 1 1 3 = true from by decide]
        go_wp2_with fail
        clear g0 g1 g2 g3 g4 t0 t1
        go_loopw [18] (fun i wr => ∃ k : Nat, k ≤ n ∧ i = .int .i64 k ∧ SAt w r cc p n c l sm q m d cs wr ∧ IntsAt wr ph n hh) (fun i _ => n - (intOf i).toNat)
        case atStart => exact ⟨0, by omega, rfl, HS16.out, HH16.out⟩
        case round =>
          obtain ⟨k, hk, rfl, hS, hH⟩ := hrel
          clear HTB16
          have HS17 := hid hS; have HH17 := hid hH
          clear hS hH
          obtain ⟨w17, hwr⟩ : ∃ a, wr = a := ⟨_, rfl⟩
          subst hwr
          have g0 := HS17.out.c0; have g1 := HS17.out.c1; have g2 := HS17.out.c2; have g3 := HS17.out.c3; have g4 := HS17.out.c4
          by_cases hlt : k < n
          · skip
            obtain ⟨bh, oh, hph, _, _⟩ := HH17.out.at hlt
            subst hph
            have hkl : k < l.length := by have := HS17.out.ints.1; omega
            obtain ⟨rlo, rhi, hr1, hr2⟩ := hits_span (k := k) HF.out HNE.out hkl
            have HR1 := hid hr1
            obtain ⟨hv, hhv⟩ : ∃ a, hh[k]?.getD 0 = a := ⟨_, rfl⟩
            have hr3 := hr2.2.2 hh HG.out
            simp only [hhv] at hr3
            have hv1 : ¬ hv < rlo := by omega
            have hv2 : ¬ rhi < hv := by omega
            have hv3 : decide (hv < rlo) = false := by simp; omega
            have hv4 : decide (rhi < hv) = false := by simp; omega
            have hv5 : decide (hv > rhi) = false := by simp; omega
            have HHV := hid hhv
            clear hr1 hr2 hr3 hhv hkl
            go_wp2_with fail
            refine (surveyX_any r cc p n c l sm q m d cs _ HS17.out.ints HS17.out.cnts (by have := HN.out; omega) (by have := HN.out; omega)).mono ?_
            rintro e w18 ⟨p6, n6, c6, q6, m6, d6, rfl, hi3, hc3, hb⟩
            have HS18 := hid (HS17.out.step hb)
            have HH18 := hid (HH17.out.below hb)
            have HI18 := hid hi3; have HC18 := hid hc3; clear hi3 hc3
            have HL6 : Hid (n6 ≤ 12 ∧ m6 ≤ 9) := ⟨by have := HI18.out.1; have := HS18.out.ints.1; have := HN.out; omega, by have := HC18.out.1; have := HS18.out.cnts.1; have := HN.out; omega⟩
            clear hb g0 g1 g2 g3 g4
            have g0 := HS18.out.c0; have g1 := HS18.out.c1; have g2 := HS18.out.c2; have g3 := HS18.out.c3; have g4 := HS18.out.c4
            go_wp2_with fail
            refine (Hits_any r cc p6 n6 c6 l sm q6 m6 d6 cs k _ HI18.out HC18.out (by have := HL6.out; omega) (by have := HL6.out; omega)).mono ?_
            rintro e w19 ⟨rfl, hb⟩
            have HS19 := hid (HS18.out.step hb)
            have HH19 := hid (HH18.out.below hb)
            rw [HR1.out]
            clear hb g0 g1 g2 g3 g4
            have g0 := HS19.out.c0; have g1 := HS19.out.c1; have g2 := HS19.out.c2; have g3 := HS19.out.c3; have g4 := HS19.out.c4
            obtain ⟨w20, hw⟩ : ∃ w20, w19.alloc (.cells #[.int .i64 rlo, .int .i64 rhi] 62) = w20 := ⟨_, rfl⟩
            have hb : Below w19.heap.size w19 w20 := by rw [← hw]; exact (Below.refl _ _).alloc (Nat.le_refl _) _
            have HS20 := hid (HS19.out.step hb)
            have HH20 := hid (HH19.out.below hb)
            have HTH20 : Hid (TwoAt w20 w19.heap.size rlo rhi) := by rw [← hw]; exact ⟨cell_box w19 _ 62 0 _ rfl, cell_box w19 _ 62 1 _ rfl⟩
            clear hb g0 g1 g2 g3 g4
            have g0 := HS20.out.c0; have g1 := HS20.out.c1; have g2 := HS20.out.c2; have g3 := HS20.out.c3; have g4 := HS20.out.c4
            go_wp2_with fail
            refine wp_region_held_drew (S := fun V => SAt w r cc p n c l sm q m d cs V ∧ IntsAt V (some ⟨bh, oh, none⟩) n hh ∧ TwoAt V _ rlo rhi) (by kernel_rfl) (⟨HS20.out.drewN 1, HH20.out, HTH20.out⟩) (fun hS => ?_)
            simp only [List.size_toArray, List.length_cons, List.length_nil, Nat.reduceAdd, Array.replicate_succ, Array.replicate_zero, List.push_toArray, List.nil_append, List.cons_append]
            refine wpAnyH_take (i := 0) (v := ?_) rfl (by kernel_rfl) (by kernel_rfl) (by kernel_rfl) (fun _ _ _ h => h) (Or.inl ⟨by rfl, fun V hV => ?_⟩) (by assumption) ?_
            rotate_left
            · go_simp
              try with_reducible rfl
            try simp only [Act.put, List.getElem_toArray, List.getElem_cons_zero, List.setIfInBounds_toArray, List.set_cons_zero, List.set_cons_succ]
            refine wpAnyH_take (i := 1) (v := ?_) rfl (by kernel_rfl) (by kernel_rfl) (by kernel_rfl) (fun _ _ _ h => h) (Or.inl ⟨by rfl, fun V hV => ?_⟩) (by assumption) ?_
            rotate_left
            · go_simp
              try with_reducible rfl
            try simp only [Act.put, List.getElem_toArray, List.getElem_cons_zero, List.getElem_cons_succ, List.setIfInBounds_toArray, List.set_cons_zero, List.set_cons_succ]
            refine wpAnyH_take (i := 2) (v := ?_) rfl (by kernel_rfl) (by kernel_rfl) (by kernel_rfl) (fun _ _ _ h => h) (Or.inl ⟨by rfl, fun V hV => ?_⟩) (by assumption) ?_
            rotate_left
            · go_simp
              try with_reducible rfl
            try simp only [Act.put, List.getElem_toArray, List.getElem_cons_zero, List.getElem_cons_succ, List.setIfInBounds_toArray, List.set_cons_zero, List.set_cons_succ]
            refine wpAnyH_take (i := 3) (v := ?_) rfl (by kernel_rfl) (by kernel_rfl) (by kernel_rfl) (fun _ _ _ h => h) (Or.inl ⟨by rfl, fun V hV => ?_⟩) (by assumption) ?_
            rotate_left
            · go_simp
              try with_reducible rfl
            try simp only [Act.put, List.getElem_toArray, List.getElem_cons_zero, List.getElem_cons_succ, List.setIfInBounds_toArray, List.set_cons_zero, List.set_cons_succ]
            refine wpAnyH_take (i := 4) (v := ?_) rfl (by kernel_rfl) (by kernel_rfl) (by kernel_rfl) (fun _ _ _ h => h) (Or.inl ⟨by rfl, fun V hV => ?_⟩) (by assumption) ?_
            rotate_left
            · go_simp
              try with_reducible rfl
            try simp only [Act.put, List.getElem_toArray, List.getElem_cons_zero, List.getElem_cons_succ, List.setIfInBounds_toArray, List.set_cons_zero, List.set_cons_succ]
            refine wpAnyH_take (i := 5) (v := ?_) rfl (by kernel_rfl) (by kernel_rfl) (by kernel_rfl) (fun _ _ _ h => h) (Or.inl ⟨by rfl, fun V hV => ?_⟩) (by assumption) ?_
            rotate_left
            · go_simp
              try with_reducible rfl
            try simp only [Act.put, List.getElem_toArray, List.getElem_cons_zero, List.getElem_cons_succ, List.setIfInBounds_toArray, List.set_cons_zero, List.set_cons_succ]
            refine wpAnyH_take (i := 6) (v := ?_) rfl (by kernel_rfl) (by kernel_rfl) (by kernel_rfl) (fun _ _ _ h => h) (Or.inl ⟨by rfl, fun V hV => ?_⟩) (by assumption) ?_
            rotate_left
            · have hc := hV.2.1.get hlt; rw [HHV.out] at hc; go_simp
              try with_reducible rfl
            try simp only [Act.put, List.getElem_toArray, List.getElem_cons_zero, List.getElem_cons_succ, List.setIfInBounds_toArray, List.set_cons_zero, List.set_cons_succ]
            refine wpAnyH_take (i := 7) (v := ?_) rfl (by kernel_rfl) (by kernel_rfl) (by kernel_rfl) (fun _ _ _ h => h) (Or.inl ⟨by rfl, fun V hV => ?_⟩) (by assumption) ?_
            rotate_left
            · go_simp
              try with_reducible rfl
            try simp only [Act.put, List.getElem_toArray, List.getElem_cons_zero, List.getElem_cons_succ, List.setIfInBounds_toArray, List.set_cons_zero, List.set_cons_succ]
            refine wpAnyH_take (i := 8) (v := ?_) rfl (by kernel_rfl) (by kernel_rfl) (by kernel_rfl) (fun _ _ _ h => h) (Or.inl ⟨by rfl, fun V hV => ?_⟩) (by assumption) ?_
            rotate_left
            · have ⟨u0, u1⟩ := hV.2.2; go_simp
              try with_reducible rfl
            try simp only [Act.put, List.getElem_toArray, List.getElem_cons_zero, List.getElem_cons_succ, List.setIfInBounds_toArray, List.set_cons_zero, List.set_cons_succ]
            refine wpAnyH_take (i := 9) (v := ?_) rfl (by kernel_rfl) (by kernel_rfl) (by kernel_rfl) (fun _ _ _ h => h) (Or.inl ⟨by rfl, fun V hV => ?_⟩) (by assumption) ?_
            rotate_left
            · go_simp
              try with_reducible rfl
            try simp only [Act.put, List.getElem_toArray, List.getElem_cons_zero, List.getElem_cons_succ, List.setIfInBounds_toArray, List.set_cons_zero, List.set_cons_succ]
            refine wpAnyH_take (i := 10) (v := ?_) rfl (by kernel_rfl) (by kernel_rfl) (by kernel_rfl) (fun _ _ _ h => h) (Or.inl ⟨by rfl, fun V hV => ?_⟩) (by assumption) ?_
            rotate_left
            · go_simp
              try with_reducible rfl
            try simp only [Act.put, List.getElem_toArray, List.getElem_cons_zero, List.getElem_cons_succ, List.setIfInBounds_toArray, List.set_cons_zero, List.set_cons_succ]
            refine wpAnyH_take (i := 11) (v := ?_) rfl (by kernel_rfl) (by kernel_rfl) (by kernel_rfl) (fun _ _ _ h => h) (Or.inl ⟨by rfl, fun V hV => ?_⟩) (by assumption) ?_
            rotate_left
            · go_simp
              try with_reducible rfl
            try simp only [Act.put, List.getElem_toArray, List.getElem_cons_zero, List.getElem_cons_succ, List.setIfInBounds_toArray, List.set_cons_zero, List.set_cons_succ]
            refine wpAnyH_take (i := 12) (v := ?_) rfl (by kernel_rfl) (by kernel_rfl) (by kernel_rfl) (fun _ _ _ h => h) (Or.inl ⟨by rfl, fun V hV => ?_⟩) (by assumption) ?_
            rotate_left
            · go_simp
              try with_reducible rfl
            try simp only [Act.put, List.getElem_toArray, List.getElem_cons_zero, List.getElem_cons_succ, List.setIfInBounds_toArray, List.set_cons_zero, List.set_cons_succ]
            refine wpAnyH_take (i := 13) (v := ?_) rfl (by kernel_rfl) (by kernel_rfl) (by kernel_rfl) (fun _ _ _ h => h) (Or.inl ⟨by rfl, fun V hV => ?_⟩) (by assumption) ?_
            rotate_left
            · go_simp
              try with_reducible rfl
            try simp only [Act.put, List.getElem_toArray, List.getElem_cons_zero, List.getElem_cons_succ, List.setIfInBounds_toArray, List.set_cons_zero, List.set_cons_succ]
            refine wpAnyH_take (i := 14) (v := ?_) rfl (by kernel_rfl) (by kernel_rfl) (by kernel_rfl) (fun _ _ _ h => h) (Or.inl ⟨by rfl, fun V hV => ?_⟩) (by assumption) ?_
            rotate_left
            · go_simp
              try with_reducible rfl
            try simp only [Act.put, List.getElem_toArray, List.getElem_cons_zero, List.getElem_cons_succ, List.setIfInBounds_toArray, List.set_cons_zero, List.set_cons_succ]
            refine wpAnyH_take (i := 15) (v := ?_) rfl (by kernel_rfl) (by kernel_rfl) (by kernel_rfl) (fun _ _ _ h => h) (Or.inl ⟨by rfl, fun V hV => ?_⟩) (by assumption) ?_
            rotate_left
            · have hc := hV.2.1.get hlt; rw [HHV.out] at hc; go_simp
              try with_reducible rfl
            try simp only [Act.put, List.getElem_toArray, List.getElem_cons_zero, List.getElem_cons_succ, List.setIfInBounds_toArray, List.set_cons_zero, List.set_cons_succ]
            refine wpAnyH_take (i := 16) (v := ?_) rfl (by kernel_rfl) (by kernel_rfl) (by kernel_rfl) (fun _ _ _ h => h) (Or.inl ⟨by rfl, fun V hV => ?_⟩) (by assumption) ?_
            rotate_left
            · go_simp
              try with_reducible rfl
            try simp only [Act.put, List.getElem_toArray, List.getElem_cons_zero, List.getElem_cons_succ, List.setIfInBounds_toArray, List.set_cons_zero, List.set_cons_succ]
            refine wpAnyH_take (i := 17) (v := ?_) rfl (by kernel_rfl) (by kernel_rfl) (by kernel_rfl) (fun _ _ _ h => h) (Or.inl ⟨by rfl, fun V hV => ?_⟩) (by assumption) ?_
            rotate_left
            · have ⟨u0, u1⟩ := hV.2.2; go_simp
              try with_reducible rfl
            try simp only [Act.put, List.getElem_toArray, List.getElem_cons_zero, List.getElem_cons_succ, List.setIfInBounds_toArray, List.set_cons_zero, List.set_cons_succ]
            refine wpAnyH_take (i := 18) (v := ?_) rfl (by kernel_rfl) (by kernel_rfl) (by kernel_rfl) (fun _ _ _ h => h) (Or.inl ⟨by rfl, fun V hV => ?_⟩) (by assumption) ?_
            rotate_left
            · go_simp
              try with_reducible rfl
            try simp only [Act.put, List.getElem_toArray, List.getElem_cons_zero, List.getElem_cons_succ, List.setIfInBounds_toArray, List.set_cons_zero, List.set_cons_succ]
            refine wpAnyH_take (i := 19) (v := ?_) rfl (by kernel_rfl) (by kernel_rfl) (by kernel_rfl) (fun _ _ _ h => h) (Or.inl ⟨by rfl, fun V hV => ?_⟩) (by assumption) ?_
            rotate_left
            · go_simp
              try with_reducible rfl
            try simp only [Act.put, List.getElem_toArray, List.getElem_cons_zero, List.getElem_cons_succ, List.setIfInBounds_toArray, List.set_cons_zero, List.set_cons_succ]
            refine wpAnyH_done (by kernel_rfl) ?_ _
            have HSX := hid hS
            clear hS
            have hn12 : n ≤ 12 := HN.out.1
            go_wp2
            go_roundw
            case rel => exact ⟨k + 1, by omega, by go_num, HSX.out.1, HSX.out.2.1⟩
            case measure => simp [intOf]; omega
          · skip
            go_wp2_with fail
            refine (awake_any _).mono ?_
            rintro e w99 ⟨rfl, hb⟩
            go_wp2_with fail
            go_ret
            exact ⟨rfl, HS17.out.below.trans (hb.mono HS17.out.below.size)⟩
      · skip
        go_wp2_with fail
        refine (in_any _ _ _ _).mono ?_
        rintro e w95 ⟨rfl, rfl⟩
        rw [show inB 2 1 3 = true from by decide]
        go_wp2_with fail
        clear g0 g1 g2 g3 g4 t0 t1
        go_loopw [18] (fun i wr => ∃ k : Nat, k ≤ n ∧ i = .int .i64 k ∧ SAt w r cc p n c l sm q m d cs wr ∧ IntsAt wr ph n hh) (fun i _ => n - (intOf i).toNat)
        case atStart => exact ⟨0, by omega, rfl, HS16.out, HH16.out⟩
        case round =>
          obtain ⟨k, hk, rfl, hS, hH⟩ := hrel
          clear HTB16
          have HS17 := hid hS; have HH17 := hid hH
          clear hS hH
          obtain ⟨w17, hwr⟩ : ∃ a, wr = a := ⟨_, rfl⟩
          subst hwr
          have g0 := HS17.out.c0; have g1 := HS17.out.c1; have g2 := HS17.out.c2; have g3 := HS17.out.c3; have g4 := HS17.out.c4
          by_cases hlt : k < n
          · skip
            obtain ⟨bh, oh, hph, _, _⟩ := HH17.out.at hlt
            subst hph
            have hkl : k < l.length := by have := HS17.out.ints.1; omega
            obtain ⟨rlo, rhi, hr1, hr2⟩ := hits_span (k := k) HF.out HNE.out hkl
            have HR1 := hid hr1
            obtain ⟨hv, hhv⟩ : ∃ a, hh[k]?.getD 0 = a := ⟨_, rfl⟩
            have hr3 := hr2.2.2 hh HG.out
            simp only [hhv] at hr3
            have hv1 : ¬ hv < rlo := by omega
            have hv2 : ¬ rhi < hv := by omega
            have hv3 : decide (hv < rlo) = false := by simp; omega
            have hv4 : decide (rhi < hv) = false := by simp; omega
            have hv5 : decide (hv > rhi) = false := by simp; omega
            have HHV := hid hhv
            clear hr1 hr2 hr3 hhv hkl
            go_wp2_with fail
            refine (surveyX_any r cc p n c l sm q m d cs _ HS17.out.ints HS17.out.cnts (by have := HN.out; omega) (by have := HN.out; omega)).mono ?_
            rintro e w18 ⟨p6, n6, c6, q6, m6, d6, rfl, hi3, hc3, hb⟩
            have HS18 := hid (HS17.out.step hb)
            have HH18 := hid (HH17.out.below hb)
            have HI18 := hid hi3; have HC18 := hid hc3; clear hi3 hc3
            have HL6 : Hid (n6 ≤ 12 ∧ m6 ≤ 9) := ⟨by have := HI18.out.1; have := HS18.out.ints.1; have := HN.out; omega, by have := HC18.out.1; have := HS18.out.cnts.1; have := HN.out; omega⟩
            clear hb g0 g1 g2 g3 g4
            have g0 := HS18.out.c0; have g1 := HS18.out.c1; have g2 := HS18.out.c2; have g3 := HS18.out.c3; have g4 := HS18.out.c4
            go_wp2_with fail
            refine (Hits_any r cc p6 n6 c6 l sm q6 m6 d6 cs k _ HI18.out HC18.out (by have := HL6.out; omega) (by have := HL6.out; omega)).mono ?_
            rintro e w19 ⟨rfl, hb⟩
            have HS19 := hid (HS18.out.step hb)
            have HH19 := hid (HH18.out.below hb)
            rw [HR1.out]
            clear hb g0 g1 g2 g3 g4
            have g0 := HS19.out.c0; have g1 := HS19.out.c1; have g2 := HS19.out.c2; have g3 := HS19.out.c3; have g4 := HS19.out.c4
            obtain ⟨w20, hw⟩ : ∃ w20, w19.alloc (.cells #[.int .i64 rlo, .int .i64 rhi] 62) = w20 := ⟨_, rfl⟩
            have hb : Below w19.heap.size w19 w20 := by rw [← hw]; exact (Below.refl _ _).alloc (Nat.le_refl _) _
            have HS20 := hid (HS19.out.step hb)
            have HH20 := hid (HH19.out.below hb)
            have HTH20 : Hid (TwoAt w20 w19.heap.size rlo rhi) := by rw [← hw]; exact ⟨cell_box w19 _ 62 0 _ rfl, cell_box w19 _ 62 1 _ rfl⟩
            clear hb g0 g1 g2 g3 g4
            have g0 := HS20.out.c0; have g1 := HS20.out.c1; have g2 := HS20.out.c2; have g3 := HS20.out.c3; have g4 := HS20.out.c4
            go_wp2_with fail
            refine wp_region_held_drew (S := fun V => SAt w r cc p n c l sm q m d cs V ∧ IntsAt V (some ⟨bh, oh, none⟩) n hh ∧ TwoAt V _ rlo rhi) (by kernel_rfl) (⟨HS20.out.drewN 1, HH20.out, HTH20.out⟩) (fun hS => ?_)
            simp only [List.size_toArray, List.length_cons, List.length_nil, Nat.reduceAdd, Array.replicate_succ, Array.replicate_zero, List.push_toArray, List.nil_append, List.cons_append]
            refine wpAnyH_take (i := 0) (v := ?_) rfl (by kernel_rfl) (by kernel_rfl) (by kernel_rfl) (fun _ _ _ h => h) (Or.inl ⟨by rfl, fun V hV => ?_⟩) (by assumption) ?_
            rotate_left
            · go_simp
              try with_reducible rfl
            try simp only [Act.put, List.getElem_toArray, List.getElem_cons_zero, List.setIfInBounds_toArray, List.set_cons_zero, List.set_cons_succ]
            refine wpAnyH_take (i := 1) (v := ?_) rfl (by kernel_rfl) (by kernel_rfl) (by kernel_rfl) (fun _ _ _ h => h) (Or.inl ⟨by rfl, fun V hV => ?_⟩) (by assumption) ?_
            rotate_left
            · go_simp
              try with_reducible rfl
            try simp only [Act.put, List.getElem_toArray, List.getElem_cons_zero, List.getElem_cons_succ, List.setIfInBounds_toArray, List.set_cons_zero, List.set_cons_succ]
            refine wpAnyH_take (i := 2) (v := ?_) rfl (by kernel_rfl) (by kernel_rfl) (by kernel_rfl) (fun _ _ _ h => h) (Or.inl ⟨by rfl, fun V hV => ?_⟩) (by assumption) ?_
            rotate_left
            · go_simp
              try with_reducible rfl
            try simp only [Act.put, List.getElem_toArray, List.getElem_cons_zero, List.getElem_cons_succ, List.setIfInBounds_toArray, List.set_cons_zero, List.set_cons_succ]
            refine wpAnyH_take (i := 3) (v := ?_) rfl (by kernel_rfl) (by kernel_rfl) (by kernel_rfl) (fun _ _ _ h => h) (Or.inl ⟨by rfl, fun V hV => ?_⟩) (by assumption) ?_
            rotate_left
            · go_simp
              try with_reducible rfl
            try simp only [Act.put, List.getElem_toArray, List.getElem_cons_zero, List.getElem_cons_succ, List.setIfInBounds_toArray, List.set_cons_zero, List.set_cons_succ]
            refine wpAnyH_take (i := 4) (v := ?_) rfl (by kernel_rfl) (by kernel_rfl) (by kernel_rfl) (fun _ _ _ h => h) (Or.inl ⟨by rfl, fun V hV => ?_⟩) (by assumption) ?_
            rotate_left
            · go_simp
              try with_reducible rfl
            try simp only [Act.put, List.getElem_toArray, List.getElem_cons_zero, List.getElem_cons_succ, List.setIfInBounds_toArray, List.set_cons_zero, List.set_cons_succ]
            refine wpAnyH_take (i := 5) (v := ?_) rfl (by kernel_rfl) (by kernel_rfl) (by kernel_rfl) (fun _ _ _ h => h) (Or.inl ⟨by rfl, fun V hV => ?_⟩) (by assumption) ?_
            rotate_left
            · go_simp
              try with_reducible rfl
            try simp only [Act.put, List.getElem_toArray, List.getElem_cons_zero, List.getElem_cons_succ, List.setIfInBounds_toArray, List.set_cons_zero, List.set_cons_succ]
            refine wpAnyH_take (i := 6) (v := ?_) rfl (by kernel_rfl) (by kernel_rfl) (by kernel_rfl) (fun _ _ _ h => h) (Or.inl ⟨by rfl, fun V hV => ?_⟩) (by assumption) ?_
            rotate_left
            · have hc := hV.2.1.get hlt; rw [HHV.out] at hc; go_simp
              try with_reducible rfl
            try simp only [Act.put, List.getElem_toArray, List.getElem_cons_zero, List.getElem_cons_succ, List.setIfInBounds_toArray, List.set_cons_zero, List.set_cons_succ]
            refine wpAnyH_take (i := 7) (v := ?_) rfl (by kernel_rfl) (by kernel_rfl) (by kernel_rfl) (fun _ _ _ h => h) (Or.inl ⟨by rfl, fun V hV => ?_⟩) (by assumption) ?_
            rotate_left
            · go_simp
              try with_reducible rfl
            try simp only [Act.put, List.getElem_toArray, List.getElem_cons_zero, List.getElem_cons_succ, List.setIfInBounds_toArray, List.set_cons_zero, List.set_cons_succ]
            refine wpAnyH_take (i := 8) (v := ?_) rfl (by kernel_rfl) (by kernel_rfl) (by kernel_rfl) (fun _ _ _ h => h) (Or.inl ⟨by rfl, fun V hV => ?_⟩) (by assumption) ?_
            rotate_left
            · have ⟨u0, u1⟩ := hV.2.2; go_simp
              try with_reducible rfl
            try simp only [Act.put, List.getElem_toArray, List.getElem_cons_zero, List.getElem_cons_succ, List.setIfInBounds_toArray, List.set_cons_zero, List.set_cons_succ]
            refine wpAnyH_take (i := 9) (v := ?_) rfl (by kernel_rfl) (by kernel_rfl) (by kernel_rfl) (fun _ _ _ h => h) (Or.inl ⟨by rfl, fun V hV => ?_⟩) (by assumption) ?_
            rotate_left
            · go_simp
              try with_reducible rfl
            try simp only [Act.put, List.getElem_toArray, List.getElem_cons_zero, List.getElem_cons_succ, List.setIfInBounds_toArray, List.set_cons_zero, List.set_cons_succ]
            refine wpAnyH_take (i := 10) (v := ?_) rfl (by kernel_rfl) (by kernel_rfl) (by kernel_rfl) (fun _ _ _ h => h) (Or.inl ⟨by rfl, fun V hV => ?_⟩) (by assumption) ?_
            rotate_left
            · go_simp
              try with_reducible rfl
            try simp only [Act.put, List.getElem_toArray, List.getElem_cons_zero, List.getElem_cons_succ, List.setIfInBounds_toArray, List.set_cons_zero, List.set_cons_succ]
            refine wpAnyH_take (i := 11) (v := ?_) rfl (by kernel_rfl) (by kernel_rfl) (by kernel_rfl) (fun _ _ _ h => h) (Or.inl ⟨by rfl, fun V hV => ?_⟩) (by assumption) ?_
            rotate_left
            · go_simp
              try with_reducible rfl
            try simp only [Act.put, List.getElem_toArray, List.getElem_cons_zero, List.getElem_cons_succ, List.setIfInBounds_toArray, List.set_cons_zero, List.set_cons_succ]
            refine wpAnyH_take (i := 12) (v := ?_) rfl (by kernel_rfl) (by kernel_rfl) (by kernel_rfl) (fun _ _ _ h => h) (Or.inl ⟨by rfl, fun V hV => ?_⟩) (by assumption) ?_
            rotate_left
            · go_simp
              try with_reducible rfl
            try simp only [Act.put, List.getElem_toArray, List.getElem_cons_zero, List.getElem_cons_succ, List.setIfInBounds_toArray, List.set_cons_zero, List.set_cons_succ]
            refine wpAnyH_take (i := 13) (v := ?_) rfl (by kernel_rfl) (by kernel_rfl) (by kernel_rfl) (fun _ _ _ h => h) (Or.inl ⟨by rfl, fun V hV => ?_⟩) (by assumption) ?_
            rotate_left
            · go_simp
              try with_reducible rfl
            try simp only [Act.put, List.getElem_toArray, List.getElem_cons_zero, List.getElem_cons_succ, List.setIfInBounds_toArray, List.set_cons_zero, List.set_cons_succ]
            refine wpAnyH_take (i := 14) (v := ?_) rfl (by kernel_rfl) (by kernel_rfl) (by kernel_rfl) (fun _ _ _ h => h) (Or.inl ⟨by rfl, fun V hV => ?_⟩) (by assumption) ?_
            rotate_left
            · go_simp
              try with_reducible rfl
            try simp only [Act.put, List.getElem_toArray, List.getElem_cons_zero, List.getElem_cons_succ, List.setIfInBounds_toArray, List.set_cons_zero, List.set_cons_succ]
            refine wpAnyH_take (i := 15) (v := ?_) rfl (by kernel_rfl) (by kernel_rfl) (by kernel_rfl) (fun _ _ _ h => h) (Or.inl ⟨by rfl, fun V hV => ?_⟩) (by assumption) ?_
            rotate_left
            · have hc := hV.2.1.get hlt; rw [HHV.out] at hc; go_simp
              try with_reducible rfl
            try simp only [Act.put, List.getElem_toArray, List.getElem_cons_zero, List.getElem_cons_succ, List.setIfInBounds_toArray, List.set_cons_zero, List.set_cons_succ]
            refine wpAnyH_take (i := 16) (v := ?_) rfl (by kernel_rfl) (by kernel_rfl) (by kernel_rfl) (fun _ _ _ h => h) (Or.inl ⟨by rfl, fun V hV => ?_⟩) (by assumption) ?_
            rotate_left
            · go_simp
              try with_reducible rfl
            try simp only [Act.put, List.getElem_toArray, List.getElem_cons_zero, List.getElem_cons_succ, List.setIfInBounds_toArray, List.set_cons_zero, List.set_cons_succ]
            refine wpAnyH_take (i := 17) (v := ?_) rfl (by kernel_rfl) (by kernel_rfl) (by kernel_rfl) (fun _ _ _ h => h) (Or.inl ⟨by rfl, fun V hV => ?_⟩) (by assumption) ?_
            rotate_left
            · have ⟨u0, u1⟩ := hV.2.2; go_simp
              try with_reducible rfl
            try simp only [Act.put, List.getElem_toArray, List.getElem_cons_zero, List.getElem_cons_succ, List.setIfInBounds_toArray, List.set_cons_zero, List.set_cons_succ]
            refine wpAnyH_take (i := 18) (v := ?_) rfl (by kernel_rfl) (by kernel_rfl) (by kernel_rfl) (fun _ _ _ h => h) (Or.inl ⟨by rfl, fun V hV => ?_⟩) (by assumption) ?_
            rotate_left
            · go_simp
              try with_reducible rfl
            try simp only [Act.put, List.getElem_toArray, List.getElem_cons_zero, List.getElem_cons_succ, List.setIfInBounds_toArray, List.set_cons_zero, List.set_cons_succ]
            refine wpAnyH_take (i := 19) (v := ?_) rfl (by kernel_rfl) (by kernel_rfl) (by kernel_rfl) (fun _ _ _ h => h) (Or.inl ⟨by rfl, fun V hV => ?_⟩) (by assumption) ?_
            rotate_left
            · go_simp
              try with_reducible rfl
            try simp only [Act.put, List.getElem_toArray, List.getElem_cons_zero, List.getElem_cons_succ, List.setIfInBounds_toArray, List.set_cons_zero, List.set_cons_succ]
            refine wpAnyH_done (by kernel_rfl) ?_ _
            have HSX := hid hS
            clear hS
            have hn12 : n ≤ 12 := HN.out.1
            go_wp2
            go_roundw
            case rel => exact ⟨k + 1, by omega, by go_num, HSX.out.1, HSX.out.2.1⟩
            case measure => simp [intOf]; omega
          · skip
            go_wp2_with fail
            refine (awake_any _).mono ?_
            rintro e w99 ⟨rfl, hb⟩
            go_wp2_with fail
            go_ret
            exact ⟨rfl, HS17.out.below.trans (hb.mono HS17.out.below.size)⟩
      · skip
        go_wp2_with fail
        refine (in_any _ _ _ _).mono ?_
        rintro e w95 ⟨rfl, rfl⟩
        rw [show inB 3 1 3 = true from by decide]
        go_wp2_with fail
        clear g0 g1 g2 g3 g4 t0 t1
        go_loopw [18] (fun i wr => ∃ k : Nat, k ≤ n ∧ i = .int .i64 k ∧ SAt w r cc p n c l sm q m d cs wr ∧ IntsAt wr ph n hh) (fun i _ => n - (intOf i).toNat)
        case atStart => exact ⟨0, by omega, rfl, HS16.out, HH16.out⟩
        case round =>
          obtain ⟨k, hk, rfl, hS, hH⟩ := hrel
          clear HTB16
          have HS17 := hid hS; have HH17 := hid hH
          clear hS hH
          obtain ⟨w17, hwr⟩ : ∃ a, wr = a := ⟨_, rfl⟩
          subst hwr
          have g0 := HS17.out.c0; have g1 := HS17.out.c1; have g2 := HS17.out.c2; have g3 := HS17.out.c3; have g4 := HS17.out.c4
          by_cases hlt : k < n
          · skip
            obtain ⟨bh, oh, hph, _, _⟩ := HH17.out.at hlt
            subst hph
            have hkl : k < l.length := by have := HS17.out.ints.1; omega
            obtain ⟨rlo, rhi, hr1, hr2⟩ := hits_span (k := k) HF.out HNE.out hkl
            have HR1 := hid hr1
            obtain ⟨hv, hhv⟩ : ∃ a, hh[k]?.getD 0 = a := ⟨_, rfl⟩
            have hr3 := hr2.2.2 hh HG.out
            simp only [hhv] at hr3
            have hv1 : ¬ hv < rlo := by omega
            have hv2 : ¬ rhi < hv := by omega
            have hv3 : decide (hv < rlo) = false := by simp; omega
            have hv4 : decide (rhi < hv) = false := by simp; omega
            have hv5 : decide (hv > rhi) = false := by simp; omega
            have HHV := hid hhv
            clear hr1 hr2 hr3 hhv hkl
            go_wp2_with fail
            refine (surveyX_any r cc p n c l sm q m d cs _ HS17.out.ints HS17.out.cnts (by have := HN.out; omega) (by have := HN.out; omega)).mono ?_
            rintro e w18 ⟨p6, n6, c6, q6, m6, d6, rfl, hi3, hc3, hb⟩
            have HS18 := hid (HS17.out.step hb)
            have HH18 := hid (HH17.out.below hb)
            have HI18 := hid hi3; have HC18 := hid hc3; clear hi3 hc3
            have HL6 : Hid (n6 ≤ 12 ∧ m6 ≤ 9) := ⟨by have := HI18.out.1; have := HS18.out.ints.1; have := HN.out; omega, by have := HC18.out.1; have := HS18.out.cnts.1; have := HN.out; omega⟩
            clear hb g0 g1 g2 g3 g4
            have g0 := HS18.out.c0; have g1 := HS18.out.c1; have g2 := HS18.out.c2; have g3 := HS18.out.c3; have g4 := HS18.out.c4
            go_wp2_with fail
            refine (Hits_any r cc p6 n6 c6 l sm q6 m6 d6 cs k _ HI18.out HC18.out (by have := HL6.out; omega) (by have := HL6.out; omega)).mono ?_
            rintro e w19 ⟨rfl, hb⟩
            have HS19 := hid (HS18.out.step hb)
            have HH19 := hid (HH18.out.below hb)
            rw [HR1.out]
            clear hb g0 g1 g2 g3 g4
            have g0 := HS19.out.c0; have g1 := HS19.out.c1; have g2 := HS19.out.c2; have g3 := HS19.out.c3; have g4 := HS19.out.c4
            obtain ⟨w20, hw⟩ : ∃ w20, w19.alloc (.cells #[.int .i64 rlo, .int .i64 rhi] 62) = w20 := ⟨_, rfl⟩
            have hb : Below w19.heap.size w19 w20 := by rw [← hw]; exact (Below.refl _ _).alloc (Nat.le_refl _) _
            have HS20 := hid (HS19.out.step hb)
            have HH20 := hid (HH19.out.below hb)
            have HTH20 : Hid (TwoAt w20 w19.heap.size rlo rhi) := by rw [← hw]; exact ⟨cell_box w19 _ 62 0 _ rfl, cell_box w19 _ 62 1 _ rfl⟩
            clear hb g0 g1 g2 g3 g4
            have g0 := HS20.out.c0; have g1 := HS20.out.c1; have g2 := HS20.out.c2; have g3 := HS20.out.c3; have g4 := HS20.out.c4
            go_wp2_with fail
            refine wp_region_held_drew (S := fun V => SAt w r cc p n c l sm q m d cs V ∧ IntsAt V (some ⟨bh, oh, none⟩) n hh ∧ TwoAt V _ rlo rhi) (by kernel_rfl) (⟨HS20.out.drewN 1, HH20.out, HTH20.out⟩) (fun hS => ?_)
            simp only [List.size_toArray, List.length_cons, List.length_nil, Nat.reduceAdd, Array.replicate_succ, Array.replicate_zero, List.push_toArray, List.nil_append, List.cons_append]
            refine wpAnyH_take (i := 0) (v := ?_) rfl (by kernel_rfl) (by kernel_rfl) (by kernel_rfl) (fun _ _ _ h => h) (Or.inl ⟨by rfl, fun V hV => ?_⟩) (by assumption) ?_
            rotate_left
            · go_simp
              try with_reducible rfl
            try simp only [Act.put, List.getElem_toArray, List.getElem_cons_zero, List.setIfInBounds_toArray, List.set_cons_zero, List.set_cons_succ]
            refine wpAnyH_take (i := 1) (v := ?_) rfl (by kernel_rfl) (by kernel_rfl) (by kernel_rfl) (fun _ _ _ h => h) (Or.inl ⟨by rfl, fun V hV => ?_⟩) (by assumption) ?_
            rotate_left
            · go_simp
              try with_reducible rfl
            try simp only [Act.put, List.getElem_toArray, List.getElem_cons_zero, List.getElem_cons_succ, List.setIfInBounds_toArray, List.set_cons_zero, List.set_cons_succ]
            refine wpAnyH_take (i := 2) (v := ?_) rfl (by kernel_rfl) (by kernel_rfl) (by kernel_rfl) (fun _ _ _ h => h) (Or.inl ⟨by rfl, fun V hV => ?_⟩) (by assumption) ?_
            rotate_left
            · go_simp
              try with_reducible rfl
            try simp only [Act.put, List.getElem_toArray, List.getElem_cons_zero, List.getElem_cons_succ, List.setIfInBounds_toArray, List.set_cons_zero, List.set_cons_succ]
            refine wpAnyH_take (i := 3) (v := ?_) rfl (by kernel_rfl) (by kernel_rfl) (by kernel_rfl) (fun _ _ _ h => h) (Or.inl ⟨by rfl, fun V hV => ?_⟩) (by assumption) ?_
            rotate_left
            · go_simp
              try with_reducible rfl
            try simp only [Act.put, List.getElem_toArray, List.getElem_cons_zero, List.getElem_cons_succ, List.setIfInBounds_toArray, List.set_cons_zero, List.set_cons_succ]
            refine wpAnyH_take (i := 4) (v := ?_) rfl (by kernel_rfl) (by kernel_rfl) (by kernel_rfl) (fun _ _ _ h => h) (Or.inl ⟨by rfl, fun V hV => ?_⟩) (by assumption) ?_
            rotate_left
            · go_simp
              try with_reducible rfl
            try simp only [Act.put, List.getElem_toArray, List.getElem_cons_zero, List.getElem_cons_succ, List.setIfInBounds_toArray, List.set_cons_zero, List.set_cons_succ]
            refine wpAnyH_take (i := 5) (v := ?_) rfl (by kernel_rfl) (by kernel_rfl) (by kernel_rfl) (fun _ _ _ h => h) (Or.inl ⟨by rfl, fun V hV => ?_⟩) (by assumption) ?_
            rotate_left
            · go_simp
              try with_reducible rfl
            try simp only [Act.put, List.getElem_toArray, List.getElem_cons_zero, List.getElem_cons_succ, List.setIfInBounds_toArray, List.set_cons_zero, List.set_cons_succ]
            refine wpAnyH_take (i := 6) (v := ?_) rfl (by kernel_rfl) (by kernel_rfl) (by kernel_rfl) (fun _ _ _ h => h) (Or.inl ⟨by rfl, fun V hV => ?_⟩) (by assumption) ?_
            rotate_left
            · have hc := hV.2.1.get hlt; rw [HHV.out] at hc; go_simp
              try with_reducible rfl
            try simp only [Act.put, List.getElem_toArray, List.getElem_cons_zero, List.getElem_cons_succ, List.setIfInBounds_toArray, List.set_cons_zero, List.set_cons_succ]
            refine wpAnyH_take (i := 7) (v := ?_) rfl (by kernel_rfl) (by kernel_rfl) (by kernel_rfl) (fun _ _ _ h => h) (Or.inl ⟨by rfl, fun V hV => ?_⟩) (by assumption) ?_
            rotate_left
            · go_simp
              try with_reducible rfl
            try simp only [Act.put, List.getElem_toArray, List.getElem_cons_zero, List.getElem_cons_succ, List.setIfInBounds_toArray, List.set_cons_zero, List.set_cons_succ]
            refine wpAnyH_take (i := 8) (v := ?_) rfl (by kernel_rfl) (by kernel_rfl) (by kernel_rfl) (fun _ _ _ h => h) (Or.inl ⟨by rfl, fun V hV => ?_⟩) (by assumption) ?_
            rotate_left
            · have ⟨u0, u1⟩ := hV.2.2; go_simp
              try with_reducible rfl
            try simp only [Act.put, List.getElem_toArray, List.getElem_cons_zero, List.getElem_cons_succ, List.setIfInBounds_toArray, List.set_cons_zero, List.set_cons_succ]
            refine wpAnyH_take (i := 9) (v := ?_) rfl (by kernel_rfl) (by kernel_rfl) (by kernel_rfl) (fun _ _ _ h => h) (Or.inl ⟨by rfl, fun V hV => ?_⟩) (by assumption) ?_
            rotate_left
            · go_simp
              try with_reducible rfl
            try simp only [Act.put, List.getElem_toArray, List.getElem_cons_zero, List.getElem_cons_succ, List.setIfInBounds_toArray, List.set_cons_zero, List.set_cons_succ]
            refine wpAnyH_take (i := 10) (v := ?_) rfl (by kernel_rfl) (by kernel_rfl) (by kernel_rfl) (fun _ _ _ h => h) (Or.inl ⟨by rfl, fun V hV => ?_⟩) (by assumption) ?_
            rotate_left
            · go_simp
              try with_reducible rfl
            try simp only [Act.put, List.getElem_toArray, List.getElem_cons_zero, List.getElem_cons_succ, List.setIfInBounds_toArray, List.set_cons_zero, List.set_cons_succ]
            refine wpAnyH_take (i := 11) (v := ?_) rfl (by kernel_rfl) (by kernel_rfl) (by kernel_rfl) (fun _ _ _ h => h) (Or.inl ⟨by rfl, fun V hV => ?_⟩) (by assumption) ?_
            rotate_left
            · go_simp
              try with_reducible rfl
            try simp only [Act.put, List.getElem_toArray, List.getElem_cons_zero, List.getElem_cons_succ, List.setIfInBounds_toArray, List.set_cons_zero, List.set_cons_succ]
            refine wpAnyH_take (i := 12) (v := ?_) rfl (by kernel_rfl) (by kernel_rfl) (by kernel_rfl) (fun _ _ _ h => h) (Or.inl ⟨by rfl, fun V hV => ?_⟩) (by assumption) ?_
            rotate_left
            · go_simp
              try with_reducible rfl
            try simp only [Act.put, List.getElem_toArray, List.getElem_cons_zero, List.getElem_cons_succ, List.setIfInBounds_toArray, List.set_cons_zero, List.set_cons_succ]
            refine wpAnyH_take (i := 13) (v := ?_) rfl (by kernel_rfl) (by kernel_rfl) (by kernel_rfl) (fun _ _ _ h => h) (Or.inl ⟨by rfl, fun V hV => ?_⟩) (by assumption) ?_
            rotate_left
            · go_simp
              try with_reducible rfl
            try simp only [Act.put, List.getElem_toArray, List.getElem_cons_zero, List.getElem_cons_succ, List.setIfInBounds_toArray, List.set_cons_zero, List.set_cons_succ]
            refine wpAnyH_take (i := 14) (v := ?_) rfl (by kernel_rfl) (by kernel_rfl) (by kernel_rfl) (fun _ _ _ h => h) (Or.inl ⟨by rfl, fun V hV => ?_⟩) (by assumption) ?_
            rotate_left
            · go_simp
              try with_reducible rfl
            try simp only [Act.put, List.getElem_toArray, List.getElem_cons_zero, List.getElem_cons_succ, List.setIfInBounds_toArray, List.set_cons_zero, List.set_cons_succ]
            refine wpAnyH_take (i := 15) (v := ?_) rfl (by kernel_rfl) (by kernel_rfl) (by kernel_rfl) (fun _ _ _ h => h) (Or.inl ⟨by rfl, fun V hV => ?_⟩) (by assumption) ?_
            rotate_left
            · have hc := hV.2.1.get hlt; rw [HHV.out] at hc; go_simp
              try with_reducible rfl
            try simp only [Act.put, List.getElem_toArray, List.getElem_cons_zero, List.getElem_cons_succ, List.setIfInBounds_toArray, List.set_cons_zero, List.set_cons_succ]
            refine wpAnyH_take (i := 16) (v := ?_) rfl (by kernel_rfl) (by kernel_rfl) (by kernel_rfl) (fun _ _ _ h => h) (Or.inl ⟨by rfl, fun V hV => ?_⟩) (by assumption) ?_
            rotate_left
            · go_simp
              try with_reducible rfl
            try simp only [Act.put, List.getElem_toArray, List.getElem_cons_zero, List.getElem_cons_succ, List.setIfInBounds_toArray, List.set_cons_zero, List.set_cons_succ]
            refine wpAnyH_take (i := 17) (v := ?_) rfl (by kernel_rfl) (by kernel_rfl) (by kernel_rfl) (fun _ _ _ h => h) (Or.inl ⟨by rfl, fun V hV => ?_⟩) (by assumption) ?_
            rotate_left
            · have ⟨u0, u1⟩ := hV.2.2; go_simp
              try with_reducible rfl
            try simp only [Act.put, List.getElem_toArray, List.getElem_cons_zero, List.getElem_cons_succ, List.setIfInBounds_toArray, List.set_cons_zero, List.set_cons_succ]
            refine wpAnyH_take (i := 18) (v := ?_) rfl (by kernel_rfl) (by kernel_rfl) (by kernel_rfl) (fun _ _ _ h => h) (Or.inl ⟨by rfl, fun V hV => ?_⟩) (by assumption) ?_
            rotate_left
            · go_simp
              try with_reducible rfl
            try simp only [Act.put, List.getElem_toArray, List.getElem_cons_zero, List.getElem_cons_succ, List.setIfInBounds_toArray, List.set_cons_zero, List.set_cons_succ]
            refine wpAnyH_take (i := 19) (v := ?_) rfl (by kernel_rfl) (by kernel_rfl) (by kernel_rfl) (fun _ _ _ h => h) (Or.inl ⟨by rfl, fun V hV => ?_⟩) (by assumption) ?_
            rotate_left
            · go_simp
              try with_reducible rfl
            try simp only [Act.put, List.getElem_toArray, List.getElem_cons_zero, List.getElem_cons_succ, List.setIfInBounds_toArray, List.set_cons_zero, List.set_cons_succ]
            refine wpAnyH_done (by kernel_rfl) ?_ _
            have HSX := hid hS
            clear hS
            have hn12 : n ≤ 12 := HN.out.1
            go_wp2
            go_roundw
            case rel => exact ⟨k + 1, by omega, by go_num, HSX.out.1, HSX.out.2.1⟩
            case measure => simp [intOf]; omega
          · skip
            go_wp2_with fail
            refine (awake_any _).mono ?_
            rintro e w99 ⟨rfl, hb⟩
            go_wp2_with fail
            go_ret
            exact ⟨rfl, HS17.out.below.trans (hb.mono HS17.out.below.size)⟩
    | false =>
      go_wp2_with fail
      refine (awake_any _).mono ?_
      rintro e w99 ⟨rfl, hb⟩
      go_wp2_with fail
      go_ret
      exact ⟨rfl, HS6.out.below.trans (hb.mono HS6.out.below.size)⟩
  | false =>
    go_wp2_with fail
    refine (awake_any _).mono ?_
    rintro e w99 ⟨rfl, hb⟩
    go_wp2_with fail
    go_ret
    exact ⟨rfl, HS2.out.below.trans (hb.mono HS2.out.below.size)⟩
end Go.Proofs.Ytlicijnaacdceaa
