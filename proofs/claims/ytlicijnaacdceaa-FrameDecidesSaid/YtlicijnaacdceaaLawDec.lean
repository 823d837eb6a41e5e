/- FrameDecides returns true, whatever its arguments are. No condition. -/
import Derived.Test.YtlicijnaacdceaaPlnF
import Derived.Test.YtlicijnaacdceaaLawAwake
import Derived.Test.YtlicijnaacdceaaRefL
namespace Go.Proofs.Ytlicijnaacdceaa
open Go.RowKit

theorem few_len {r cc : Int} {l : List Int} {sm : Int} {cs : List Cnt} {part : Int} {X : List Int} (hX : FewIs r cc l sm cs part X) (h : dueE r cc l sm cs part = 0) : X.length ≤ 9 := by
  obtain ⟨hf, hi, hT⟩ := due_facts h
  have hp : partE r cc l sm cs part = 0 := by unfold partE; rw [if_pos hf, if_pos hi]
  have h9 : l.length ≤ 9 := (field_facts (fault0 hf).2.1).2.2.2.2.2.2.1
  unfold FewIs at hX
  rw [if_pos ⟨hp, fun e => hT ((truths_ok hf).nil.1 e)⟩] at hX
  by_cases e : X = []
  · rw [e]; simp
  · have := incr_room _ _ 0 hX.1 e
    omega

set_option maxRecDepth 40000 in
set_option maxHeartbeats 8000000 in
theorem frameDecides_any (r cc : Int) (p : Option Addr) (n c : Nat) (l : List Int) (sm : Int) (q : Option Addr) (m d : Nat) (cs : List Cnt) (part : Int) (w : World) (hl : IntsAt w p n l) (hcs : CntsAt w q m cs) :
    Calls Try.prog 3 #[.agg #[.int .i64 r, .int .i64 cc, .slice p n c, .int .i64 sm, .slice q m d], .int .i64 part] w fun e w' => e = .returned (.bool true) ∧ Below w.heap.size w w' := by
  have HS1 := hid (SAt.start (r := r) (cc := cc) (c := c) (sm := sm) (d := d) hl hcs)
  clear hl hcs
  have g0 := HS1.out.c0; have g1 := HS1.out.c1; have g2 := HS1.out.c2; have g3 := HS1.out.c3; have g4 := HS1.out.c4
  by_cases ht : thinB n m = true
  · have hnm : n ≤ 12 ∧ m ≤ 9 := by simpa [thinB] using ht
    have HN := hid hnm
    clear hnm
    go_enter Try.func3, Try.ntmps3
    go_wp2_with fail
    refine (thin_any _ _ _ _ _ _ _ _ _ _).mono ?_
    rintro e w2 ⟨rfl, hb⟩
    have HS2 := hid (HS1.out.step hb)
    clear hb g0 g1 g2 g3 g4
    have g0 := HS2.out.c0; have g1 := HS2.out.c1; have g2 := HS2.out.c2; have g3 := HS2.out.c3; have g4 := HS2.out.c4
    rw [show (decide (n ≤ 12) && decide (m ≤ 9)) = true from ht]
    clear ht
    go_wp2_with fail
    refine (surveyX_any r cc p n c l sm q m d cs _ HS2.out.ints HS2.out.cnts (by have := HN.out; omega) (by have := HN.out; omega)).mono ?_
    rintro e w3 ⟨p1, n1, c1, q1, m1, d1, rfl, hi3, hc3, hb⟩
    have HS3 := hid (HS2.out.step hb)
    have HI3 := hid hi3; have HC3 := hid hc3; clear hi3 hc3
    have HL3 : Hid (n1 ≤ 12 ∧ m1 ≤ 9) := ⟨by have := HI3.out.1; have := HS3.out.ints.1; have := HN.out; omega, by have := HC3.out.1; have := HS3.out.cnts.1; have := HN.out; omega⟩
    clear hb g0 g1 g2 g3 g4
    have g0 := HS3.out.c0; have g1 := HS3.out.c1; have g2 := HS3.out.c2; have g3 := HS3.out.c3; have g4 := HS3.out.c4
    go_wp2_with fail
    refine (Above_any r cc p1 n1 c1 l sm q1 m1 d1 cs part _ HI3.out HC3.out (by have := HL3.out; omega) (by have := HL3.out; omega)).mono ?_
    rintro e w4 ⟨rfl, hb⟩
    have HS4 := hid (HS3.out.step hb)
    obtain ⟨a1, ha1⟩ : ∃ a, (aboveR part r cc l sm cs).1 = a := ⟨_, rfl⟩
    obtain ⟨a2, ha2⟩ : ∃ a, (aboveR part r cc l sm cs).2 = a := ⟨_, rfl⟩
    rw [ha1, ha2]
    have HA1 := hid ha1; have HA2 := hid ha2
    clear ha1 ha2
    clear hb g0 g1 g2 g3 g4
    have g0 := HS4.out.c0; have g1 := HS4.out.c1; have g2 := HS4.out.c2; have g3 := HS4.out.c3; have g4 := HS4.out.c4
    go_wp2_with fail
    refine (surveyX_any r cc p n c l sm q m d cs _ HS4.out.ints HS4.out.cnts (by have := HN.out; omega) (by have := HN.out; omega)).mono ?_
    rintro e w5 ⟨p2, n2, c2, q2, m2, d2, rfl, hi3, hc3, hb⟩
    have HS5 := hid (HS4.out.step hb)
    have HI5 := hid hi3; have HC5 := hid hc3; clear hi3 hc3
    have HL5 : Hid (n2 ≤ 12 ∧ m2 ≤ 9) := ⟨by have := HI5.out.1; have := HS5.out.ints.1; have := HN.out; omega, by have := HC5.out.1; have := HS5.out.cnts.1; have := HN.out; omega⟩
    clear hb g0 g1 g2 g3 g4
    have g0 := HS5.out.c0; have g1 := HS5.out.c1; have g2 := HS5.out.c2; have g3 := HS5.out.c3; have g4 := HS5.out.c4
    go_wp2_with fail
    refine (Fewest_any r cc p2 n2 c2 l sm q2 m2 d2 cs part _ HI5.out HC5.out (by have := HL5.out; omega) (by have := HL5.out; omega)).mono ?_
    rintro e w6 ⟨px, nx, cx, X, rfl, hx, hX, hb⟩
    have HS6 := hid (HS5.out.step hb)
    have HX6 := hid hx
    have HXX : Hid (FewIs r cc l sm cs part X) := hX
    clear hx hX
    obtain ⟨fe, hfe⟩ : ∃ a, fewE r cc l sm cs part = a := ⟨_, rfl⟩
    rw [show (if partE r cc l sm cs part = 0 then (if genP (okP cs [] cc sm) l 0 [] = [] then 9 else 0) else partE r cc l sm cs part) = fe from hfe]
    have HFE := hid hfe
    clear hfe
    clear hb g0 g1 g2 g3 g4
    have g0 := HS6.out.c0; have g1 := HS6.out.c1; have g2 := HS6.out.c2; have g3 := HS6.out.c3; have g4 := HS6.out.c4
    go_wp2_with fail
    refine (sure_any r cc p n c l sm q m d cs _ HS6.out.ints HS6.out.cnts (by have := HN.out; omega) (by have := HN.out; omega)).mono ?_
    rintro e w7 ⟨pt, nt, ct, T, rfl, hx, hX, hb⟩
    have HS7 := hid (HS6.out.step hb)
    have HX7 := hid (HX6.out.below hb)
    have HT7 := hid hx
    have HTT := hid hX
    clear hx hX
    obtain ⟨se, hse⟩ : ∃ a, sureE r cc l sm cs = a := ⟨_, rfl⟩
    rw [hse]
    have HSE := hid hse
    clear hse
    clear hb g0 g1 g2 g3 g4
    have g0 := HS7.out.c0; have g1 := HS7.out.c1; have g2 := HS7.out.c2; have g3 := HS7.out.c3; have g4 := HS7.out.c4
    go_wp2_with fail
    refine (faultX_any r cc p n c l sm q m d cs _ HS7.out.ints HS7.out.cnts (by have := HN.out; omega) (by have := HN.out; omega)).mono ?_
    rintro e w8 ⟨rfl, hb⟩
    have HS8 := hid (HS7.out.step hb)
    have HX8 := hid (HX7.out.below hb)
    have HT8 := hid (HT7.out.below hb)
    clear hb g0 g1 g2 g3 g4
    have g0 := HS8.out.c0; have g1 := HS8.out.c1; have g2 := HS8.out.c2; have g3 := HS8.out.c3; have g4 := HS8.out.c4
    have HDB : Hid (dueE r cc l sm cs part ≠ 0 → a1 = 0 ∧ a2 = dueE r cc l sm cs part ∧ fe = dueE r cc l sm cs part ∧ X = []) := fun h => by
      obtain ⟨h1, h2, h3⟩ := due_bad h
      refine ⟨by rw [← HA1.out, h1], by rw [← HA2.out, h1], by rw [← HFE.out, h2], h3 _ HXX.out⟩
    by_cases hf : faultL r cc l sm cs = 0
    · have HF := hid hf
      rw [hf]
      clear hf
      by_cases hi : inB part 0 100 = true
      · have HIN := hid hi
        have HDU : Hid (dueE r cc l sm cs part = se) := by show dueE _ _ _ _ _ _ = _; unfold dueE; rw [if_neg (by rw [HIN.out]; simp)]; exact HSE.out
        go_wp2_with fail
        refine (in_any _ _ _ _).mono ?_
        rintro e w90 ⟨rfl, rfl⟩
        rw [hi]
        clear hi
        by_cases hse : se = 0
        · subst hse
          have hgood := due_good HDU.out
          have hfacts := due_facts HDU.out
          have hTe : T = truthsL cc l sm cs 0 := by have h9 : T = sureV r cc l sm cs := HTT.out; rw [h9, sureV, if_pos HF.out]
          have HTE := hid hTe
          have htok := truths_ok HF.out
          rw [← hTe] at hgood hfacts htok
          clear hTe
          have hxe := hgood.2.2 X HXX.out
          obtain ⟨lo, hlo⟩ : ∃ a, (spanL (fun i => shareL l (nthG l i)) T).1 = a := ⟨_, rfl⟩
          obtain ⟨hi, hhi⟩ : ∃ a, (spanL (fun i => shareL l (nthG l i)) T).2 = a := ⟨_, rfl⟩
          rw [hlo, hhi] at hgood
          have e1 : a1 = verdictL lo hi part := by rw [← HA1.out, hgood.1]
          have e2 : a2 = 0 := by rw [← HA2.out, hgood.1]
          have e3 : fe = 0 := by rw [← HFE.out, hgood.2.1]
          subst e2 e3
          have HE1 := hid e1; have HXE := hid hxe; have HLO := hid hlo; have HHI := hid hhi; have HOK := hid htok
          have HZ : Hid (nt ≤ 4000) := by have h1 := HT8.out.1; have h2 := htok.few; show nt ≤ 4000; omega
          have HXN : Hid (nx ≤ 1000000) := by have h1 := HX8.out.1; have h2 := (due_facts HDU.out).1; have h3 := few_len HXX.out HDU.out; show nx ≤ 1000000; omega
          clear hgood hfacts htok hxe hlo hhi e1
          go_wp2_with fail
          refine (bounds_any r cc p n c l sm q m d cs pt nt ct T _ HS8.out.ints HT8.out HZ.out (oks_of HF.out) (fun x hx => by have := HOK.out.num x hx; omega)).mono ?_
          rintro e w9 ⟨rfl, hb⟩
          have HS9 := hid (HS8.out.step hb)
          have HX9 := hid (HX8.out.below hb)
          have HT9 := hid (HT8.out.below hb)
          rw [HLO.out, HHI.out]
          clear hb g0 g1 g2 g3 g4
          have g0 := HS9.out.c0; have g1 := HS9.out.c1; have g2 := HS9.out.c2; have g3 := HS9.out.c3; have g4 := HS9.out.c4
          go_wp2_with fail
          refine (verdict_any _ _ _ _).mono ?_
          rintro e w10 ⟨rfl, hb⟩
          have HS10 := hid (HS9.out.step hb)
          have HX10 := hid (HX9.out.below hb)
          have HT10 := hid (HT9.out.below hb)
          rw [← HE1.out]
          clear hb g0 g1 g2 g3 g4
          have g0 := HS10.out.c0; have g1 := HS10.out.c1; have g2 := HS10.out.c2; have g3 := HS10.out.c3; have g4 := HS10.out.c4
          go_wp2_with fail
          refine (fewest_any r cc p n c l sm q m d cs pt nt ct T part _ HS10.out.ints HT10.out HZ.out (oks_of HF.out) (fun x hx => by have := HOK.out.num x hx; omega)).mono ?_
          rintro e w11 ⟨v6, rfl, ho, hb⟩
          have HS11 := hid (HS10.out.step hb)
          have HX11 := hid (HX10.out.below hb)
          have HT11 := hid (HT10.out.below hb)
          obtain ⟨p6, c6, rfl, h6⟩ := ho.slice
          have hNL : n = l.length := HS10.out.ints.1
          rw [hNL, ← HXE.out] at h6 ⊢
          have H6 := hid h6
          have HLX : Hid (X.length ≤ 1000000) := by have h1 := HX11.out.1; have h2 := HXN.out; show X.length ≤ 1000000; omega
          clear ho h6 hNL
          clear hb g0 g1 g2 g3 g4
          have g0 := HS11.out.c0; have g1 := HS11.out.c1; have g2 := HS11.out.c2; have g3 := HS11.out.c3; have g4 := HS11.out.c4
          go_wp2_with fail
          refine (same_any px nx cx X p6 _ c6 _ w11 HX11.out H6.out HXN.out HLX.out).mono ?_
          rintro e w91 ⟨rfl, nn, hw⟩
          have HB91 : Hid (Below w.heap.size w w91) := by rw [hw]; exact below_drewN HS11.out.below _
          clear hw g0 g1 g2 g3 g4
          have hsame : sameB X X = true := by simp [sameB, before_irr]
          rw [hsame]
          go_wp2_with fail
          refine (awake_any _).mono ?_
          rintro e w99 ⟨rfl, hb⟩
          go_wp2_with fail
          go_ret
          exact ⟨rfl, HB91.out.trans (hb.mono HB91.out.size)⟩
        · have hne : se ≠ 0 := hse
          have hneb : (se == 0) = false := by simp [hse]
          obtain ⟨rfl, rfl, rfl, rfl⟩ := HDB.out (by rw [HDU.out]; exact hne)
          obtain rfl : nx = 0 := HX8.out.1
          rw [HDU.out]
          go_wp2_with fail
          refine (awake_any _).mono ?_
          rintro e w99 ⟨rfl, hb⟩
          go_wp2_with fail
          go_ret
          exact ⟨rfl, HS8.out.below.trans (hb.mono HS8.out.below.size)⟩
      · have hi' : inB part 0 100 = false := by simpa using hi
        clear hi
        have HDU : Hid (dueE r cc l sm cs part = 2) := by show dueE _ _ _ _ _ _ = _; unfold dueE; rw [if_pos ⟨HF.out, hi'⟩]
        have hne : (2 : Int) ≠ 0 := by decide
        go_wp2_with fail
        refine (in_any _ _ _ _).mono ?_
        rintro e w90 ⟨rfl, rfl⟩
        rw [hi']
        clear hi'
        obtain ⟨rfl, rfl, rfl, rfl⟩ := HDB.out (by rw [HDU.out]; exact hne)
        obtain rfl : nx = 0 := HX8.out.1
        rw [HDU.out]
        go_wp2_with fail
        refine (awake_any _).mono ?_
        rintro e w99 ⟨rfl, hb⟩
        go_wp2_with fail
        go_ret
        exact ⟨rfl, HS8.out.below.trans (hb.mono HS8.out.below.size)⟩
    · have HDU : Hid (dueE r cc l sm cs part = se) := by show dueE _ _ _ _ _ _ = _; unfold dueE; rw [if_neg (by simp [hf])]; exact HSE.out
      have hse : se = faultL r cc l sm cs := by rw [← HSE.out, sureE, if_neg hf]
      rw [← hse] at hf ⊢
      have hne : se ≠ 0 := hf
      have hneb : (se == 0) = false := by simp [hf]
      clear hse hf
      obtain ⟨rfl, rfl, rfl, rfl⟩ := HDB.out (by rw [HDU.out]; exact hne)
      obtain rfl : nx = 0 := HX8.out.1
      rw [HDU.out]
      go_wp2_with fail
      refine (awake_any _).mono ?_
      rintro e w99 ⟨rfl, hb⟩
      go_wp2_with fail
      go_ret
      exact ⟨rfl, HS8.out.below.trans (hb.mono HS8.out.below.size)⟩
  · have ht' : (decide (n ≤ 12) && decide (m ≤ 9)) = false := by simpa [thinB] using ht
    clear ht
    go_enter Try.func3, Try.ntmps3
    go_wp2_with fail
    refine (thin_any _ _ _ _ _ _ _ _ _ _).mono ?_
    rintro e w2 ⟨rfl, hb⟩
    have HS2 := hid (HS1.out.step hb)
    clear hb g0 g1 g2 g3 g4
    rw [ht']
    clear ht'
    go_wp2_with fail
    refine (awake_any _).mono ?_
    rintro e w99 ⟨rfl, hb⟩
    go_wp2_with fail
    go_ret
    exact ⟨rfl, HS2.out.below.trans (hb.mono HS2.out.below.size)⟩
end Go.Proofs.Ytlicijnaacdceaa
