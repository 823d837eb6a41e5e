/- FrameShares returns true, whatever its arguments are. No condition. -/
import Derived.Test.YtlicijnaacdceaaPlnF
import Derived.Test.YtlicijnaacdceaaLawAwake
namespace Go.Proofs.Ytlicijnaacdceaa
open Go.RowKit

theorem prove_truth {r cc : Int} {l : List Int} {sm : Int} {cs : List Cnt} {th : List Int} (hf : faultL r cc l sm cs = 0) :
    (decide (faultL r cc l sm cs = 0) && (isListedB l th && decide (th ∈ genP (okP cs [] cc sm) l 0 []))) = isTruthB cc l sm cs th 0 := by
  obtain ⟨h1, h2, h3, h4, h5⟩ := fault0 hf
  have hff := field_facts h2
  have hm := genP_truth (sm := sm) hff.2.2.1 h4 (outIs_nil _) th
  rw [Bool.eq_iff_iff, ← hm]
  simp only [hf, decide_true, Bool.true_and, Bool.and_eq_true, decide_eq_true_eq]
  exact ⟨fun h => h.2, fun h => ⟨genP_listed h, h⟩⟩

set_option maxRecDepth 20000 in
set_option maxHeartbeats 1000000 in
theorem isTruthNo_any (r cc : Int) (p : Option Addr) (n c : Nat) (l : List Int) (sm : Int) (q : Option Addr) (m d : Nat) (_cs : List Cnt) (t : Option Addr) (k th : Nat) (h : List Int) (out : Int) (w : World) (hl : IntsAt w p n l)
    (hh : IntsAt w t k h) (hn : n ≤ 100) (hk : k ≤ 100) (hno : isListedB l h = false) :
    Calls Try.prog 53 #[.agg #[.int .i64 r, .int .i64 cc, .slice p n c, .int .i64 sm, .slice q m d], .slice t k th, .int .i64 out] w fun e w' => e = .returned (.bool false) ∧ Below w.heap.size w w' := by
  have HI := hid (fun W (hW : Below w.heap.size w W) => isListed_any r cc p n c l t k th h W (hl.below hW) (hh.below hW) (by omega) (by omega))
  clear hl hh
  go_enter Try.func53, Try.ntmps53
  go_wp2_with (go_at_call 54; refine (HI.out _ ?_).mono ?_; exact (Below.refl _ _).alloc (Nat.le_refl _) _; rintro e w1 ⟨rfl, hb⟩)
  go_ret
  exact ⟨rfl, ((Below.refl _ _).alloc (Nat.le_refl _) _).trans (hb.mono (by simp))⟩

set_option maxRecDepth 40000 in
set_option maxHeartbeats 16000000 in
theorem frameShares_any (r cc : Int) (p : Option Addr) (n c : Nat) (l : List Int) (sm : Int) (q : Option Addr) (m d : Nat) (cs : List Cnt) (pt : Option Addr) (nt ct : Nat) (th : List Int) (w : World) (hl : IntsAt w p n l) (hcs : CntsAt w q m cs) (hu : IntsAt w pt nt th) :
    Calls Try.prog 14 #[.agg #[.int .i64 r, .int .i64 cc, .slice p n c, .int .i64 sm, .slice q m d], .slice pt nt ct] w fun e w' => e = .returned (.bool true) ∧ Below w.heap.size w w' := by
  have HS1 := hid (SAt.start (r := r) (cc := cc) (c := c) (sm := sm) (d := d) hl hcs)
  have HU1 : Hid (IntsAt (w.alloc (.cells #[.int .i64 r, .int .i64 cc, .slice p n c, .int .i64 sm, .slice q m d] 27)) pt nt th) := hu.alloc _
  clear hl hcs hu
  have g0 := HS1.out.c0; have g1 := HS1.out.c1; have g2 := HS1.out.c2; have g3 := HS1.out.c3; have g4 := HS1.out.c4
  by_cases ht : thinB n m = true
  · have hnm : n ≤ 12 ∧ m ≤ 9 := by simpa [thinB] using ht
    have HN := hid hnm
    clear hnm
    by_cases hnt : nt ≤ 12
    · have HNT := hid hnt
      have hnt1 : (12 < nt) = False := by simp; omega
      have hnt2 : ((12 : Int) < nt) = False := by simp; omega
      go_enter Try.func14, Try.ntmps14
      go_wp2_with fail
      refine (thin_any _ _ _ _ _ _ _ _ _ _).mono ?_
      rintro e w2 ⟨rfl, hb⟩
      have HS2 := hid (HS1.out.step hb)
      have HU2 := hid (HU1.out.below hb)
      clear hb g0 g1 g2 g3 g4
      have g0 := HS2.out.c0; have g1 := HS2.out.c1; have g2 := HS2.out.c2; have g3 := HS2.out.c3; have g4 := HS2.out.c4
      rw [show (decide (n ≤ 12) && decide (m ≤ 9)) = true from ht]
      clear ht
      go_wp2_with fail
      refine (surveyX_any r cc p n c l sm q m d cs _ HS2.out.ints HS2.out.cnts (by have := HN.out; omega) (by have := HN.out; omega)).mono ?_
      rintro e w3 ⟨p1, n1, c1, q1, m1, d1, rfl, hi3, hc3, hb⟩
      have HS3 := hid (HS2.out.step hb)
      have HU3 := hid (HU2.out.below hb)
      have HI3 := hid hi3; have HC3 := hid hc3; clear hi3 hc3
      have HL3 : Hid (n1 ≤ 12 ∧ m1 ≤ 9) := ⟨by have := HI3.out.1; have := HS3.out.ints.1; have := HN.out; omega, by have := HC3.out.1; have := HS3.out.cnts.1; have := HN.out; omega⟩
      clear hb g0 g1 g2 g3 g4
      have g0 := HS3.out.c0; have g1 := HS3.out.c1; have g2 := HS3.out.c2; have g3 := HS3.out.c3; have g4 := HS3.out.c4
      go_wp2_with fail
      refine (list_any pt nt ct th _ HU3.out (by have := HNT.out; omega)).mono ?_
      rintro e w4 ⟨v1, rfl, ho, hb⟩
      have HS4 := hid (HS3.out.step hb)
      have HU4 := hid (HU3.out.below hb)
      have HI4 := hid (HI3.out.below hb)
      have HC4 := hid (HC3.out.below hb)
      obtain ⟨pl1, cl1, rfl, h6⟩ := ho.slice
      have HV4 := hid h6
      have HVL4 : Hid (th.length ≤ 100) := by have h1 := HU4.out.1; have h2 := HNT.out; show th.length ≤ 100; omega
      clear ho h6
      clear hb g0 g1 g2 g3 g4
      have g0 := HS4.out.c0; have g1 := HS4.out.c1; have g2 := HS4.out.c2; have g3 := HS4.out.c3; have g4 := HS4.out.c4
      go_wp2_with fail
      refine (Share_any r cc p1 n1 c1 l sm q1 m1 d1 cs pl1 _ cl1 th _ HI4.out HC4.out HV4.out (by have := HL3.out; omega) (by have := HL3.out; omega) HVL4.out).mono ?_
      rintro e w5 ⟨rfl, hb⟩
      have HS5 := hid (HS4.out.step hb)
      have HU5 := hid (HU4.out.below hb)
      have HI5 := hid (HI4.out.below hb)
      have HC5 := hid (HC4.out.below hb)
      obtain ⟨sv, hsv⟩ : ∃ a, shareV r cc l sm cs th = a := ⟨_, rfl⟩
      obtain ⟨sx, hsx⟩ : ∃ a, shareE r cc l sm cs th = a := ⟨_, rfl⟩
      rw [hsv, hsx]
      have HSV := hid hsv; have HSX := hid hsx
      clear hsv hsx
      clear hb g0 g1 g2 g3 g4
      have g0 := HS5.out.c0; have g1 := HS5.out.c1; have g2 := HS5.out.c2; have g3 := HS5.out.c3; have g4 := HS5.out.c4
      go_wp2_with fail
      refine (surveyX_any r cc p n c l sm q m d cs _ HS5.out.ints HS5.out.cnts (by have := HN.out; omega) (by have := HN.out; omega)).mono ?_
      rintro e w6 ⟨p2, n2, c2, q2, m2, d2, rfl, hi3, hc3, hb⟩
      have HS6 := hid (HS5.out.step hb)
      have HU6 := hid (HU5.out.below hb)
      have HI6 := hid hi3; have HC6 := hid hc3; clear hi3 hc3
      have HL6 : Hid (n2 ≤ 12 ∧ m2 ≤ 9) := ⟨by have := HI6.out.1; have := HS6.out.ints.1; have := HN.out; omega, by have := HC6.out.1; have := HS6.out.cnts.1; have := HN.out; omega⟩
      clear hb g0 g1 g2 g3 g4
      have g0 := HS6.out.c0; have g1 := HS6.out.c1; have g2 := HS6.out.c2; have g3 := HS6.out.c3; have g4 := HS6.out.c4
      go_wp2_with fail
      refine (list_any pt nt ct th _ HU6.out (by have := HNT.out; omega)).mono ?_
      rintro e w7 ⟨v2, rfl, ho, hb⟩
      have HS7 := hid (HS6.out.step hb)
      have HU7 := hid (HU6.out.below hb)
      have HI7 := hid (HI6.out.below hb)
      have HC7 := hid (HC6.out.below hb)
      obtain ⟨pl2, cl2, rfl, h6⟩ := ho.slice
      have HV7 := hid h6
      have HVL7 : Hid (th.length ≤ 100) := by have h1 := HU7.out.1; have h2 := HNT.out; show th.length ≤ 100; omega
      clear ho h6
      clear hb g0 g1 g2 g3 g4
      have g0 := HS7.out.c0; have g1 := HS7.out.c1; have g2 := HS7.out.c2; have g3 := HS7.out.c3; have g4 := HS7.out.c4
      go_wp2_with fail
      refine (proveTruth_any r cc p2 n2 c2 l sm q2 m2 d2 cs pl2 _ cl2 th _ HI7.out HC7.out HV7.out (by have := HL6.out; omega) (by have := HL6.out; omega) HVL7.out).mono ?_
      rintro e w8 ⟨rfl, hb⟩
      have HS8 := hid (HS7.out.step hb)
      have HU8 := hid (HU7.out.below hb)
      have HI8 := hid (HI7.out.below hb)
      have HC8 := hid (HC7.out.below hb)
      obtain ⟨pv, hpv⟩ : ∃ a, (decide (faultL r cc l sm cs = 0) && (isListedB l th && decide (th ∈ genP (okP cs [] cc sm) l 0 []))) = a := ⟨_, rfl⟩
      rw [hpv]
      have HPV := hid hpv
      clear hpv
      clear hb g0 g1 g2 g3 g4
      have g0 := HS8.out.c0; have g1 := HS8.out.c1; have g2 := HS8.out.c2; have g3 := HS8.out.c3; have g4 := HS8.out.c4
      go_wp2_with fail
      refine (faultX_any r cc p n c l sm q m d cs _ HS8.out.ints HS8.out.cnts (by have := HN.out; omega) (by have := HN.out; omega)).mono ?_
      rintro e w9 ⟨rfl, hb⟩
      have HS9 := hid (HS8.out.step hb)
      have HU9 := hid (HU8.out.below hb)
      clear hb g0 g1 g2 g3 g4
      have g0 := HS9.out.c0; have g1 := HS9.out.c1; have g2 := HS9.out.c2; have g3 := HS9.out.c3; have g4 := HS9.out.c4
      go_wp2_with fail
      refine (surveyX_any r cc p n c l sm q m d cs _ HS9.out.ints HS9.out.cnts (by have := HN.out; omega) (by have := HN.out; omega)).mono ?_
      rintro e w10 ⟨p3, n3, c3, q3, m3, d3, rfl, hi3, hc3, hb⟩
      have HS10 := hid (HS9.out.step hb)
      have HU10 := hid (HU9.out.below hb)
      have HI10 := hid hi3; have HC10 := hid hc3; clear hi3 hc3
      have HL10 : Hid (n3 ≤ 12 ∧ m3 ≤ 9) := ⟨by have := HI10.out.1; have := HS10.out.ints.1; have := HN.out; omega, by have := HC10.out.1; have := HS10.out.cnts.1; have := HN.out; omega⟩
      clear hb g0 g1 g2 g3 g4
      have g0 := HS10.out.c0; have g1 := HS10.out.c1; have g2 := HS10.out.c2; have g3 := HS10.out.c3; have g4 := HS10.out.c4
      go_wp2_with fail
      refine (checkSurvey_any r cc p3 n3 c3 l sm q3 m3 d3 cs _ HI10.out HC10.out (by have := HL10.out; omega) (by have := HL10.out; omega)).mono ?_
      rintro e w11 ⟨rfl, hb⟩
      have HS11 := hid (HS10.out.step hb)
      have HU11 := hid (HU10.out.below hb)
      have HI11 := hid (HI10.out.below hb)
      have HC11 := hid (HC10.out.below hb)
      clear hb g0 g1 g2 g3 g4
      have g0 := HS11.out.c0; have g1 := HS11.out.c1; have g2 := HS11.out.c2; have g3 := HS11.out.c3; have g4 := HS11.out.c4
      by_cases hf : faultL r cc l sm cs = 0
      · have HF := hid hf
        rw [hf]
        clear hf
        have hpv := prove_truth (th := th) HF.out
        rw [HPV.out] at hpv
        by_cases hli : isListedB l th = true
        · have HLI := hid hli
          have hnn : nt = n := by have h1 := HU11.out.1; have h2 := HS11.out.ints.1; have h3 := (listed_iff.1 hli).1; omega
          subst hnn
          have hsx : sx = 0 := by rw [← HSX.out, shareE, if_pos HF.out, if_pos hli]
          have hsv : sv = shareL l th := by rw [← HSV.out, shareV, if_pos (by rw [HSX.out, hsx])]
          have HSVE := hid hsv
          subst hsx
          subst hpv
          clear hsv hli
          have hlb : (isListedB l th) = true := HLI.out
          clear hlb
          have HFF := hid (field_facts (fault0 HF.out).2.1)
          have HTB : Hid (∀ x ∈ th, 0 ≤ x ∧ x ≤ 9) := (listed_bd HLI.out HFF.out.2.2.2.2.2.2.2).2
          have HOK := hid (oks_of HF.out)
          go_wp2_with fail
          refine (isTruth_any r cc p nt c l sm q m d cs pt ct th 0 _ HS11.out.ints (by have := HN.out; omega) HS11.out.cnts (by have := HN.out; omega) HU11.out HFF.out.2.2.1 HFF.out.2.2.2.1 (by decide) (by decide) HOK.out.sm0 HOK.out.sm9 (fun _ => HTB.out) (fun x hx => by have h1 := HOK.out.cnt x hx; have h2 := HS11.out.ints.1; omega)).mono ?_
          rintro e w12 ⟨rfl, hb⟩
          have HS12 := hid (HS11.out.step hb)
          have HU12 := hid (HU11.out.below hb)
          generalize isTruthB cc l sm cs th 0 = tv
          clear hb g0 g1 g2 g3 g4
          have g0 := HS12.out.c0; have g1 := HS12.out.c1; have g2 := HS12.out.c2; have g3 := HS12.out.c3; have g4 := HS12.out.c4
          go_wp2_with fail
          refine (isListed_any r cc p nt c l pt nt ct th _ HS12.out.ints HU12.out (by have := HN.out; omega) (by have := HN.out; omega)).mono ?_
          rintro e w13 ⟨rfl, hb⟩
          have HS13 := hid (HS12.out.step hb)
          have HU13 := hid (HU12.out.below hb)
          rw [HLI.out]
          clear hb g0 g1 g2 g3 g4
          have g0 := HS13.out.c0; have g1 := HS13.out.c1; have g2 := HS13.out.c2; have g3 := HS13.out.c3; have g4 := HS13.out.c4
          go_wp2_with fail
          refine (share_any r cc p nt c l pt ct th _ HS13.out.ints HU13.out (by have := HN.out; omega) HFF.out.2.2.2.2.2.2.2 HTB.out).mono ?_
          rintro e w14 ⟨rfl, hb⟩
          have HS14 := hid (HS13.out.step hb)
          have HU14 := hid (HU13.out.below hb)
          rw [← HSVE.out]
          clear hb g0 g1 g2 g3 g4
          have g0 := HS14.out.c0; have g1 := HS14.out.c1; have g2 := HS14.out.c2; have g3 := HS14.out.c3; have g4 := HS14.out.c4
          go_wp2_with fail
          refine (awake_any _).mono ?_
          rintro e w99 ⟨rfl, hb⟩
          go_wp2_with fail
          go_ret
          exact ⟨rfl, HS14.out.below.trans (hb.mono HS14.out.below.size)⟩
        · have hli' : isListedB l th = false := by simpa using hli
          have HLI := hid hli'
          have hsx : sx = 2 := by rw [← HSX.out, shareE, if_pos HF.out, if_neg hli]
          have hsv : sv = 0 := by rw [← HSV.out, shareV, if_neg (by rw [HSX.out, hsx]; decide)]
          subst hsx hsv
          have hpf : pv = false := by rw [hpv, isTruthB, HLI.out]; rfl
          clear hpv
          subst hpf
          clear hli hli'
          go_wp2_with fail
          refine (isTruthNo_any r cc p n c l sm q m d cs pt nt ct th 0 _ HS11.out.ints HU11.out (by have := HN.out; omega) (by have := HNT.out; omega) HLI.out).mono ?_
          rintro e w12 ⟨rfl, hb⟩
          have HS12 := hid (HS11.out.step hb)
          have HU12 := hid (HU11.out.below hb)
          clear hb g0 g1 g2 g3 g4
          have g0 := HS12.out.c0; have g1 := HS12.out.c1; have g2 := HS12.out.c2; have g3 := HS12.out.c3; have g4 := HS12.out.c4
          go_wp2_with fail
          refine (isListed_any r cc p n c l pt nt ct th _ HS12.out.ints HU12.out (by have := HN.out; omega) (by have := HNT.out; omega)).mono ?_
          rintro e w13 ⟨rfl, hb⟩
          have HS13 := hid (HS12.out.step hb)
          have HU13 := hid (HU12.out.below hb)
          rw [HLI.out]
          clear hb g0 g1 g2 g3 g4
          have g0 := HS13.out.c0; have g1 := HS13.out.c1; have g2 := HS13.out.c2; have g3 := HS13.out.c3; have g4 := HS13.out.c4
          go_wp2_with fail
          refine (awake_any _).mono ?_
          rintro e w99 ⟨rfl, hb⟩
          go_wp2_with fail
          go_ret
          exact ⟨rfl, HS13.out.below.trans (hb.mono HS13.out.below.size)⟩
      · have hsx : sx = faultL r cc l sm cs := by rw [← HSX.out, shareE, if_neg hf]
        have hsv : sv = 0 := by rw [← HSV.out, shareV, if_neg (by rw [HSX.out, hsx]; exact hf)]
        have hpf : pv = false := by rw [← HPV.out]; simp [hf]
        subst hsv hpf
        rw [← hsx] at hf ⊢
        have hfb : (sx == 0) = false := by simp [hf]
        clear hsx
        go_wp2_with fail
        refine (awake_any _).mono ?_
        rintro e w99 ⟨rfl, hb⟩
        go_wp2_with fail
        go_ret
        exact ⟨rfl, HS11.out.below.trans (hb.mono HS11.out.below.size)⟩
    · have hnt1 : 12 < nt := by omega
      have hnt2 : (12 : Int) < nt := by omega
      go_enter Try.func14, Try.ntmps14
      go_wp2_with fail
      refine (thin_any _ _ _ _ _ _ _ _ _ _).mono ?_
      rintro e w2 ⟨rfl, hb⟩
      have HS2 := hid (HS1.out.step hb)
      have HU2 := hid (HU1.out.below hb)
      clear hb g0 g1 g2 g3 g4
      rw [show (decide (n ≤ 12) && decide (m ≤ 9)) = true from ht]
      clear ht
      go_wp2_with fail
      refine (awake_any _).mono ?_
      rintro e w99 ⟨rfl, hb⟩
      go_wp2_with fail
      go_ret
      exact ⟨rfl, HS2.out.below.trans (hb.mono HS2.out.below.size)⟩
  · have ht' : (decide (n ≤ 12) && decide (m ≤ 9)) = false := by simpa [thinB] using ht
    clear ht
    go_enter Try.func14, Try.ntmps14
    go_wp2_with fail
    refine (thin_any _ _ _ _ _ _ _ _ _ _).mono ?_
    rintro e w2 ⟨rfl, hb⟩
    have HS2 := hid (HS1.out.step hb)
    have HU2 := hid (HU1.out.below hb)
    clear hb g0 g1 g2 g3 g4
    rw [ht']
    clear ht'
    go_wp2_with fail
    refine (awake_any _).mono ?_
    rintro e w99 ⟨rfl, hb⟩
    go_wp2_with fail
    go_ret
    exact ⟨rfl, HS2.out.below.trans (hb.mono HS2.out.below.size)⟩
end Go.Proofs.Ytlicijnaacdceaa
