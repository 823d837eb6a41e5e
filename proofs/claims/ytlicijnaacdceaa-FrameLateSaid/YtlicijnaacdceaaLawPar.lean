/- FrameParts returns true, whatever its arguments are. No condition. -/
import Derived.Test.YtlicijnaacdceaaPlnF
import Derived.Test.YtlicijnaacdceaaLawAwake
namespace Go.Proofs.Ytlicijnaacdceaa
open Go.RowKit

theorem can_gen {r cc : Int} {l : List Int} {sm : Int} {cs : List Cnt} (hf : faultL r cc l sm cs = 0) (h : canB cc l sm cs 0 = true) : genP (okP cs [] cc sm) l 0 [] ≠ [] := by
  obtain ⟨h1, h2, h3, h4, h5⟩ := fault0 hf
  have hff := field_facts h2
  rw [can_mem hff.2.2.1 hff.2.2.2.2.2.2.2 h5 h4 (outIs_nil _)] at h
  intro e
  rw [e] at h; cases h

/-- The verdicts of all parts, of a survey with a truth. -/
theorem above_span {r cc : Int} {l : List Int} {sm : Int} {cs : List Cnt} (hf : faultL r cc l sm cs = 0) (hG : genP (okP cs [] cc sm) l 0 [] ≠ []) :
    ∃ lo hi, Span (shareL l) (genP (okP cs [] cc sm) l 0 []) lo hi ∧ (0 ≤ lo ∧ lo ≤ hi ∧ hi ≤ 100) ∧ ∀ part : Int, 0 ≤ part → part ≤ 100 → aboveR part r cc l sm cs = (verdictL lo hi part, 0) := by
  have hs := span_rng (shareL l) _ _ rfl hG
  refine ⟨_, _, hs, ?_, fun part h0 h1 => ?_⟩
  · obtain ⟨⟨x, hx, hx'⟩, ⟨y, hy, hy'⟩, h3⟩ := hs
    have := share_bd (genP_listed hx)
    have := share_bd (genP_listed hy)
    have := h3 x hx
    omega
  · have hp : partE r cc l sm cs part = 0 := by unfold partE; rw [if_pos hf, if_pos (by simp [inB, h0, h1])]
    unfold aboveR
    rw [if_pos hp, askV, if_pos (rngP_is' _ _ hG), aboveV, if_pos rfl]

set_option maxRecDepth 40000 in
set_option maxHeartbeats 16000000 in
theorem frameParts_any (r cc : Int) (p : Option Addr) (n c : Nat) (l : List Int) (sm : Int) (q : Option Addr) (m d : Nat) (cs : List Cnt) (x y : Int) (w : World) (hl : IntsAt w p n l) (hcs : CntsAt w q m cs) (hx : 0 ≤ x ∧ x ≤ 255) (hy : 0 ≤ y ∧ y ≤ 255) :
    Calls Try.prog 7 #[.agg #[.int .i64 r, .int .i64 cc, .slice p n c, .int .i64 sm, .slice q m d], .int .u8 x, .int .u8 y] w fun e w' => e = .returned (.bool true) ∧ Below w.heap.size w w' := by
  have HS1 := hid (SAt.start (r := r) (cc := cc) (c := c) (sm := sm) (d := d) hl hcs)
  have HX := hid hx; have HY := hid hy
  clear hl hcs hx hy
  have g0 := HS1.out.c0; have g1 := HS1.out.c1; have g2 := HS1.out.c2; have g3 := HS1.out.c3; have g4 := HS1.out.c4
  obtain ⟨cb, hcb⟩ : ∃ a, ((thinB n m && decide (faultL r cc l sm cs = 0)) && canB cc l sm cs 0) = a := ⟨_, rfl⟩
  have HCB := hid hcb
  go_enter Try.func7, Try.ntmps7
  go_wp2_with fail
  refine (canX_any r cc p n c l sm q m d cs _ HS1.out.ints HS1.out.cnts).mono ?_
  rintro e w2 ⟨rfl, hb⟩
  have HS2 := hid (HS1.out.step hb)
  rw [hcb]
  clear hcb
  clear hb g0 g1 g2 g3 g4
  have g0 := HS2.out.c0; have g1 := HS2.out.c1; have g2 := HS2.out.c2; have g3 := HS2.out.c3; have g4 := HS2.out.c4
  cases cb with
  | true =>
    have hnm : n ≤ 12 ∧ m ≤ 9 := by have h := HCB.out; simp only [Bool.and_eq_true, thinB, decide_eq_true_eq] at h; exact h.1.1
    have HN := hid hnm
    clear hnm
    have hf : faultL r cc l sm cs = 0 := by have h := HCB.out; simp only [Bool.and_eq_true, decide_eq_true_eq] at h; exact h.1.2
    have HF := hid hf
    have hG : genP (okP cs [] cc sm) l 0 [] ≠ [] := by have h := HCB.out; simp only [Bool.and_eq_true] at h; exact can_gen hf h.2
    obtain ⟨lo, hi, hsp, hlo, hab⟩ := above_span hf hG
    have HAB := hid hab
    have HLO := hid hlo
    clear hf hG hsp hlo hab
    obtain ⟨n0, hn0⟩ : ∃ a, x % 101 = a := ⟨_, rfl⟩
    obtain ⟨m0, hm0⟩ : ∃ a, y % 30 = a := ⟨_, rfl⟩
    obtain ⟨mm, hmm⟩ : ∃ a, (if n0 + m0 < 100 then n0 + m0 else 100) = a := ⟨_, rfl⟩
    have HNB : Hid (0 ≤ n0 ∧ n0 ≤ 100 ∧ n0 ≤ mm ∧ mm ≤ 100) := by show _ ∧ _; have := HX.out; have := HY.out; refine ⟨?_, ?_, ?_, ?_⟩ <;> first | omega | (rw [← hmm]; split <;> omega)
    have e1 : IntKind.i64.wrap x = x := IntWalk.i64_in _ (by have := HX.out; omega)
    have e2 : IntKind.i64.wrap y = y := IntWalk.i64_in _ (by have := HY.out; omega)
    have e3 : IntKind.i64.wrap (n0 + m0) = n0 + m0 := IntWalk.i64_in _ (by have := HX.out; have := HY.out; omega)
    have e4 : x.tmod 101 = n0 := by rw [Int.tmod_eq_emod_of_nonneg HX.out.1]; exact hn0
    have e5 : y.tmod 30 = m0 := by rw [Int.tmod_eq_emod_of_nonneg HY.out.1]; exact hm0
    go_wp2_with fail
    refine (surveyX_any r cc p n c l sm q m d cs _ HS2.out.ints HS2.out.cnts (by have := HN.out; omega) (by have := HN.out; omega)).mono ?_
    rintro e w3 ⟨p1, n1, c1, q1, m1, d1, rfl, hi3, hc3, hb⟩
    have HS3 := hid (HS2.out.step hb)
    have HI3 := hid hi3; have HC3 := hid hc3; clear hi3 hc3
    have HL3 : Hid (n1 ≤ 12 ∧ m1 ≤ 9) := ⟨by have := HI3.out.1; have := HS3.out.ints.1; have := HN.out; omega, by have := HC3.out.1; have := HS3.out.cnts.1; have := HN.out; omega⟩
    clear hb g0 g1 g2 g3 g4
    have g0 := HS3.out.c0; have g1 := HS3.out.c1; have g2 := HS3.out.c2; have g3 := HS3.out.c3; have g4 := HS3.out.c4
    go_wp2_with fail
    refine (Above_any r cc p1 n1 c1 l sm q1 m1 d1 cs n0 _ HI3.out HC3.out (by have := HL3.out; omega) (by have := HL3.out; omega)).mono ?_
    rintro e w4 ⟨rfl, hb⟩
    have HS4 := hid (HS3.out.step hb)
    rw [HAB.out n0 (by have := HNB.out; omega) (by have := HNB.out; omega)]
    obtain ⟨v, hv⟩ : ∃ a, verdictL lo hi n0 = a := ⟨_, rfl⟩
    rw [hv]
    have Hv := hid hv
    clear hv
    clear hb g0 g1 g2 g3 g4
    have g0 := HS4.out.c0; have g1 := HS4.out.c1; have g2 := HS4.out.c2; have g3 := HS4.out.c3; have g4 := HS4.out.c4
    go_wp2_with fail
    refine (surveyX_any r cc p n c l sm q m d cs _ HS4.out.ints HS4.out.cnts (by have := HN.out; omega) (by have := HN.out; omega)).mono ?_
    rintro e w5 ⟨p2, n2, c2, q2, m2, d2, rfl, hi3, hc3, hb⟩
    have HS5 := hid (HS4.out.step hb)
    have HI5 := hid hi3; have HC5 := hid hc3; clear hi3 hc3
    have HL5 : Hid (n2 ≤ 12 ∧ m2 ≤ 9) := ⟨by have := HI5.out.1; have := HS5.out.ints.1; have := HN.out; omega, by have := HC5.out.1; have := HS5.out.cnts.1; have := HN.out; omega⟩
    clear hb g0 g1 g2 g3 g4
    have g0 := HS5.out.c0; have g1 := HS5.out.c1; have g2 := HS5.out.c2; have g3 := HS5.out.c3; have g4 := HS5.out.c4
    go_wp2_with fail
    refine (Above_any r cc p2 n2 c2 l sm q2 m2 d2 cs mm _ HI5.out HC5.out (by have := HL5.out; omega) (by have := HL5.out; omega)).mono ?_
    rintro e w6 ⟨rfl, hb⟩
    have HS6 := hid (HS5.out.step hb)
    rw [HAB.out mm (by have := HNB.out; omega) (by have := HNB.out; omega)]
    obtain ⟨u, hu⟩ : ∃ a, verdictL lo hi mm = a := ⟨_, rfl⟩
    rw [hu]
    have Hu := hid hu
    clear hu
    clear hb g0 g1 g2 g3 g4
    have g0 := HS6.out.c0; have g1 := HS6.out.c1; have g2 := HS6.out.c2; have g3 := HS6.out.c3; have g4 := HS6.out.c4
    go_wp2_with fail
    refine (surveyX_any r cc p n c l sm q m d cs _ HS6.out.ints HS6.out.cnts (by have := HN.out; omega) (by have := HN.out; omega)).mono ?_
    rintro e w7 ⟨p3, n3, c3, q3, m3, d3, rfl, hi3, hc3, hb⟩
    have HS7 := hid (HS6.out.step hb)
    have HI7 := hid hi3; have HC7 := hid hc3; clear hi3 hc3
    have HL7 : Hid (n3 ≤ 12 ∧ m3 ≤ 9) := ⟨by have := HI7.out.1; have := HS7.out.ints.1; have := HN.out; omega, by have := HC7.out.1; have := HS7.out.cnts.1; have := HN.out; omega⟩
    clear hb g0 g1 g2 g3 g4
    have g0 := HS7.out.c0; have g1 := HS7.out.c1; have g2 := HS7.out.c2; have g3 := HS7.out.c3; have g4 := HS7.out.c4
    go_wp2_with fail
    refine (Above_any r cc p3 n3 c3 l sm q3 m3 d3 cs 0 _ HI7.out HC7.out (by have := HL7.out; omega) (by have := HL7.out; omega)).mono ?_
    rintro e w8 ⟨rfl, hb⟩
    have HS8 := hid (HS7.out.step hb)
    rw [HAB.out 0 (by have := HNB.out; omega) (by have := HNB.out; omega)]
    obtain ⟨z, hz⟩ : ∃ a, verdictL lo hi 0 = a := ⟨_, rfl⟩
    rw [hz]
    have Hz := hid hz
    clear hz
    clear hb g0 g1 g2 g3 g4
    have g0 := HS8.out.c0; have g1 := HS8.out.c1; have g2 := HS8.out.c2; have g3 := HS8.out.c3; have g4 := HS8.out.c4
    have hcase : (v = 1 ∧ u = 1 ∨ v = 1 ∧ u = 2 ∨ v = 1 ∧ u = 3 ∨ v = 2 ∧ u = 2 ∨ v = 3 ∧ u = 2 ∨ v = 3 ∧ u = 3) ∧ z = 1 := by
      rw [← Hv.out, ← Hu.out, ← Hz.out]
      have h1 := HNB.out; have h2 := HLO.out
      unfold verdictL
      constructor
      · repeat' split
        all_goals omega
      · rw [if_pos (by omega)]
    obtain ⟨hcase, rfl⟩ := hcase
    clear e1 e2 e3 e4 e5
    rcases hcase with ⟨rfl, rfl⟩ | ⟨rfl, rfl⟩ | ⟨rfl, rfl⟩ | ⟨rfl, rfl⟩ | ⟨rfl, rfl⟩ | ⟨rfl, rfl⟩
    · skip
      go_wp2_with fail
      refine (awake_any _).mono ?_
      rintro e w99 ⟨rfl, hb⟩
      go_wp2_with fail
      go_ret
      exact ⟨rfl, HS8.out.below.trans (hb.mono HS8.out.below.size)⟩
    · skip
      go_wp2_with fail
      refine (awake_any _).mono ?_
      rintro e w99 ⟨rfl, hb⟩
      go_wp2_with fail
      go_ret
      exact ⟨rfl, HS8.out.below.trans (hb.mono HS8.out.below.size)⟩
    · skip
      go_wp2_with fail
      refine (awake_any _).mono ?_
      rintro e w99 ⟨rfl, hb⟩
      go_wp2_with fail
      go_ret
      exact ⟨rfl, HS8.out.below.trans (hb.mono HS8.out.below.size)⟩
    · skip
      go_wp2_with fail
      refine (awake_any _).mono ?_
      rintro e w99 ⟨rfl, hb⟩
      go_wp2_with fail
      go_ret
      exact ⟨rfl, HS8.out.below.trans (hb.mono HS8.out.below.size)⟩
    · skip
      go_wp2_with fail
      refine (awake_any _).mono ?_
      rintro e w99 ⟨rfl, hb⟩
      go_wp2_with fail
      go_ret
      exact ⟨rfl, HS8.out.below.trans (hb.mono HS8.out.below.size)⟩
    · skip
      go_wp2_with fail
      refine (awake_any _).mono ?_
      rintro e w99 ⟨rfl, hb⟩
      go_wp2_with fail
      go_ret
      exact ⟨rfl, HS8.out.below.trans (hb.mono HS8.out.below.size)⟩
  | false =>
    go_wp2_with fail
    refine (awake_any _).mono ?_
    rintro e w99 ⟨rfl, hb⟩
    go_wp2_with fail
    go_ret
    exact ⟨rfl, HS2.out.below.trans (hb.mono HS2.out.below.size)⟩
end Go.Proofs.Ytlicijnaacdceaa
