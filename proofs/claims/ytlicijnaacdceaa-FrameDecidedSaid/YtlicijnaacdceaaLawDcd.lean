/- FrameDecided returns true, whatever its arguments are. No condition. -/
import Derived.Test.YtlicijnaacdceaaPlnJ
import Derived.Test.YtlicijnaacdceaaPlnH
import Derived.Test.YtlicijnaacdceaaLawG
import Derived.Test.YtlicijnaacdceaaLawLft
import Derived.Deep.Cut
namespace Go.Proofs.Ytlicijnaacdceaa
open Go.RowKit

set_option maxRecDepth 40000 in
set_option maxHeartbeats 32000000 in
theorem frameDecided_any (r cc : Int) (p : Option Addr) (n c : Nat) (l : List Int) (sm : Int) (q : Option Addr) (m d : Nat) (cs : List Cnt) (x y z : Int) (w : World) (hl : IntsAt w p n l) (hcs : CntsAt w q m cs) (hx : 0 ≤ x ∧ x ≤ 65535) (hy : 0 ≤ y ∧ y ≤ 255) (hz : 0 ≤ z ∧ z ≤ 65535) :
    Calls Try.prog 5 #[.agg #[.int .i64 r, .int .i64 cc, .slice p n c, .int .i64 sm, .slice q m d], .int .u16 x, .int .u8 y, .int .u16 z] w fun e w' => e = .returned (.bool true) ∧ Below w.heap.size w w' := by
  have HIW := hid hl; have HCW := hid hcs
  have HS1 := hid (SAt.start (r := r) (cc := cc) (c := c) (sm := sm) (d := d) hl hcs)
  have HXX := hid hx; have HY := hid hy; have HZZ := hid hz
  clear hl hcs hx hy hz
  have g0 := HS1.out.c0; have g1 := HS1.out.c1; have g2 := HS1.out.c2; have g3 := HS1.out.c3; have g4 := HS1.out.c4
  obtain ⟨cb, hcb⟩ : ∃ a, ((thinB n m && decide (faultL r cc l sm cs = 0)) && canB cc l sm cs 0) = a := ⟨_, rfl⟩
  have HCB := hid hcb
  go_enter Try.func5, Try.ntmps5
  go_wp2_with fail
  refine (canX_any r cc p n c l sm q m d cs _ HS1.out.ints HS1.out.cnts).mono ?_
  rintro e w2 ⟨rfl, hb⟩
  have HS2 := hid (HS1.out.step hb)
  rw [hcb]
  clear hcb
  clear hb g0 g1 g2 g3 g4
  have g0 := HS2.out.c0; have g1 := HS2.out.c1; have g2 := HS2.out.c2; have g3 := HS2.out.c3; have g4 := HS2.out.c4
  cases cb with
  | true =>
    have hnm : n ≤ 12 ∧ m ≤ 9 := by have h := HCB.out; simp only [Bool.and_eq_true, thinB, decide_eq_true_eq] at h; exact h.1.1
    have HN := hid hnm
    clear hnm
    have hf : faultL r cc l sm cs = 0 := by have h := HCB.out; simp only [Bool.and_eq_true, decide_eq_true_eq] at h; exact h.1.2
    have HF := hid hf
    have hG : genP (okP cs [] cc sm) l 0 [] ≠ [] := by have h := HCB.out; simp only [Bool.and_eq_true] at h; exact can_gen hf h.2
    have HG := hid hG
    clear hf hG
    have HFF := hid (field_facts (fault0 HF.out).2.1)
    have HNL : Hid (n = l.length) := HIW.out.1
    have HN1 : Hid (1 ≤ n ∧ n ≤ 9) := by show _ ∧ _; have := HFF.out.2.2.2.2.2.1; have := HFF.out.2.2.2.2.2.2.1; have := HNL.out; omega
    obtain ⟨n0, hn0⟩ : ∃ a, y % 101 = a := ⟨_, rfl⟩
    have HNB : Hid (0 ≤ n0 ∧ n0 ≤ 100) := by show _ ∧ _; omega
    have hia : inB n0 0 100 = true := by have := HNB.out; simp [inB]; omega
    have HIA := hid hia
    have e2 : IntKind.i64.wrap y = y := IntWalk.i64_in _ (by have := HY.out; omega)
    have e4 : y.tmod 101 = n0 := by rw [Int.tmod_eq_emod_of_nonneg HY.out.1]; exact hn0
    have e5 : IntKind.i64.wrap n0 = n0 := IntWalk.i64_in _ (by have := HNB.out; omega)
    clear hn0 hia
    go_wp2_with fail
    refine (surveyX_any r cc p n c l sm q m d cs _ HS2.out.ints HS2.out.cnts (by have := HN.out; omega) (by have := HN.out; omega)).mono ?_
    rintro e w3 ⟨p1, n1, c1, q1, m1, d1, rfl, hi3, hc3, hb⟩
    have HS3 := hid (HS2.out.step hb)
    have HI3 := hid hi3; have HC3 := hid hc3; clear hi3 hc3
    have HL1 : Hid (n1 ≤ 12 ∧ m1 ≤ 9) := ⟨by have := HI3.out.1; have := HS3.out.ints.1; have := HN.out; omega, by have := HC3.out.1; have := HS3.out.cnts.1; have := HN.out; omega⟩
    clear hb g0 g1 g2 g3 g4
    have g0 := HS3.out.c0; have g1 := HS3.out.c1; have g2 := HS3.out.c2; have g3 := HS3.out.c3; have g4 := HS3.out.c4
    clear e2 e4 e5
    go_wp2_with fail
    refine (Fewest_any r cc p1 n1 c1 l sm q1 m1 d1 cs n0 _ HI3.out HC3.out (by have := HL1.out; omega) (by have := HL1.out; omega)).mono ?_
    rintro e w4 ⟨px, nx, cx, X, rfl, hx, hX, hb⟩
    have HS4 := hid (HS3.out.step hb)
    have hfo := few_of HF.out HIA.out HG.out hX
    rw [show (if partE r cc l sm cs n0 = 0 then (if genP (okP cs [] cc sm) l 0 [] = [] then 9 else 0) else partE r cc l sm cs n0) = 0 from hfo.2]
    have HXP := hid hfo.1
    have HX4 := hid hx
    clear hx hX hfo
    clear hb g0 g1 g2 g3 g4
    have g0 := HS4.out.c0; have g1 := HS4.out.c1; have g2 := HS4.out.c2; have g3 := HS4.out.c3; have g4 := HS4.out.c4
    have HNX : Hid (nx = X.length ∧ n = l.length) := ⟨HX4.out.1, HNL.out⟩
    have HNX9 : Hid (nx ≤ 9) := by
      show nx ≤ 9
      rw [HNX.out.1]
      by_cases e : X = []
      · rw [e]; simp
      · have h1 := incr_room _ _ 0 HXP.out.1 e; have h2 := HNX.out.2; have h3 := HN1.out; omega
    go_wp2_with fail
    clear g0 g1 g2 g3 g4
    go_loopw [12, 13] (fun s i wr => ∃ k : Nat, k ≤ nx ∧ i = .int .i64 k ∧ s = .int .i64 ((setOf X k : Nat) : Int) ∧ SAt w r cc p n c l sm q m d cs wr ∧ IntsAt wr px nx X) (fun _ i _ => nx - (intOf i).toNat)
    case atStart => exact ⟨0, by omega, rfl, by rw [setOf_zero]; rfl, HS4.out, HX4.out⟩
    case round =>
      obtain ⟨k, hk, rfl, rfl, hS, hH⟩ := hrel
      have HS5 := hid hS; have HX5 := hid hH
      clear hS hH
      have g0 := HS5.out.c0; have g1 := HS5.out.c1; have g2 := HS5.out.c2; have g3 := HS5.out.c3; have g4 := HS5.out.c4
      obtain ⟨sk, hsk⟩ : ∃ a, setOf X k = a := ⟨_, rfl⟩
      have HSK := hid hsk
      rw [hsk]
      clear hsk
      by_cases hlt : k < nx
      · skip
        have hxl : k < X.length := by have := HNX.out; omega
        have hXk : X[k]? = some X[k] := List.getElem?_eq_getElem hxl
        have hmem := incr_mem HXP.out.1 _ (List.getElem_mem hxl)
        obtain ⟨j, hj⟩ : ∃ j : Nat, X[k] = (j : Int) := ⟨X[k].toNat, by omega⟩
        rw [hj] at hXk hmem
        have hjm : j < n := by have := HNX.out; omega
        have hj12 : j < 9 := by have := HN1.out; omega
        have hgx : X[k]?.getD 0 = (j : Int) := by rw [hXk]; rfl
        have HGX := hid hgx; have HXK := hid hXk
        obtain ⟨bx, ox, hpx, _, _⟩ := HX5.out.at hlt
        subst hpx
        clear hxl hmem hj hgx hXk
        have hjj : (j : Int) ≤ (n : Int) - 1 := by omega
        go_wp2_with fail
        by_cases hk0 : k = 0
        · subst hk0
          refine wp_region_held_drew (S := fun V => SAt w r cc p n c l sm q m d cs V ∧ IntsAt V (some ⟨bx, ox, none⟩) nx X) (by kernel_rfl) (⟨HS5.out.drewN 1, HX5.out⟩) (fun hS => ?_)
          simp only [List.size_toArray, List.length_cons, List.length_nil, Nat.reduceAdd, Array.replicate_succ, Array.replicate_zero, List.push_toArray, List.nil_append, List.cons_append]
          refine wpAnyH_take (i := 0) (v := ?_) rfl (by kernel_rfl) (by kernel_rfl) (by kernel_rfl) (fun _ _ _ h => h) (Or.inl ⟨by rfl, fun V hV => ?_⟩) (by assumption) ?_
          rotate_left
          · go_simp
            try with_reducible rfl
          try simp only [Act.put, List.getElem_toArray, List.getElem_cons_zero, List.setIfInBounds_toArray, List.set_cons_zero, List.set_cons_succ]
          refine wpAnyH_take (i := 1) (v := ?_) rfl (by kernel_rfl) (by kernel_rfl) (by kernel_rfl) (fun _ _ _ h => h) (Or.inl ⟨by rfl, fun V hV => ?_⟩) (by assumption) ?_
          rotate_left
          · go_simp
            try with_reducible rfl
          try simp only [Act.put, List.getElem_toArray, List.getElem_cons_zero, List.getElem_cons_succ, List.setIfInBounds_toArray, List.set_cons_zero, List.set_cons_succ]
          refine wpAnyH_take (i := 2) (v := ?_) rfl (by kernel_rfl) (by kernel_rfl) (by kernel_rfl) (fun _ _ _ h => h) (Or.inl ⟨by rfl, fun V hV => ?_⟩) (by assumption) ?_
          rotate_left
          · go_simp
            try with_reducible rfl
          try simp only [Act.put, List.getElem_toArray, List.getElem_cons_zero, List.getElem_cons_succ, List.setIfInBounds_toArray, List.set_cons_zero, List.set_cons_succ]
          refine wpAnyH_take (i := 3) (v := ?_) rfl (by kernel_rfl) (by kernel_rfl) (by kernel_rfl) (fun _ _ _ h => h) (Or.inl ⟨by rfl, fun V hV => ?_⟩) (by assumption) ?_
          rotate_left
          · have hc := hV.2.get hlt; rw [HGX.out, Nat.add_zero] at hc; go_simp
            try with_reducible rfl
          try simp only [Act.put, List.getElem_toArray, List.getElem_cons_zero, List.getElem_cons_succ, List.setIfInBounds_toArray, List.set_cons_zero, List.set_cons_succ]
          refine wpAnyH_take (i := 4) (v := ?_) rfl (by kernel_rfl) (by kernel_rfl) (by kernel_rfl) (fun _ _ _ h => h) (Or.inl ⟨by rfl, fun V hV => ?_⟩) (by assumption) ?_
          rotate_left
          · go_simp
            try with_reducible rfl
          try simp only [Act.put, List.getElem_toArray, List.getElem_cons_zero, List.getElem_cons_succ, List.setIfInBounds_toArray, List.set_cons_zero, List.set_cons_succ]
          refine wpAnyH_take (i := 5) (v := ?_) rfl (by kernel_rfl) (by kernel_rfl) (by kernel_rfl) (fun _ _ _ h => h) (Or.inl ⟨by rfl, fun V hV => ?_⟩) (by assumption) ?_
          rotate_left
          · go_simp
            try with_reducible rfl
          try simp only [Act.put, List.getElem_toArray, List.getElem_cons_zero, List.getElem_cons_succ, List.setIfInBounds_toArray, List.set_cons_zero, List.set_cons_succ]
          refine wpAnyH_take (i := 6) (v := ?_) rfl (by kernel_rfl) (by kernel_rfl) (by kernel_rfl) (fun _ _ _ h => h) (Or.inl ⟨by rfl, fun V hV => ?_⟩) (by assumption) ?_
          rotate_left
          · have g2 := hV.1.c2; go_simp
            try with_reducible rfl
          try simp only [Act.put, List.getElem_toArray, List.getElem_cons_zero, List.getElem_cons_succ, List.setIfInBounds_toArray, List.set_cons_zero, List.set_cons_succ]
          refine wpAnyH_take (i := 7) (v := ?_) rfl (by kernel_rfl) (by kernel_rfl) (by kernel_rfl) (fun _ _ _ h => h) (Or.inl ⟨by rfl, fun V hV => ?_⟩) (by assumption) ?_
          rotate_left
          · go_simp
            try with_reducible rfl
          try simp only [Act.put, List.getElem_toArray, List.getElem_cons_zero, List.getElem_cons_succ, List.setIfInBounds_toArray, List.set_cons_zero, List.set_cons_succ]
          refine wpAnyH_take (i := 8) (v := ?_) rfl (by kernel_rfl) (by kernel_rfl) (by kernel_rfl) (fun _ _ _ h => h) (Or.inl ⟨by rfl, fun V hV => ?_⟩) (by assumption) ?_
          rotate_left
          · have e1 : IntKind.i64.wrap ((n : Int) - 1) = (n : Int) - 1 := IntWalk.i64_in _ (by have := HN1.out; omega); go_simp
            try with_reducible rfl
          try simp only [Act.put, List.getElem_toArray, List.getElem_cons_zero, List.getElem_cons_succ, List.setIfInBounds_toArray, List.set_cons_zero, List.set_cons_succ]
          refine wpAnyH_ready (rs := [9]) (by kernel_rfl) (by simp) ?_
          refine AllReadyH.cons (o := _) rfl (fun K hK => ?_) AllReadyH.nil
          go_simp
          refine (in_any _ _ _ _).mono ?_
          rintro e w81 ⟨rfl, rfl⟩
          rw [show inB (j : Int) 0 ((n : Int) - 1) = true from by simp [inB]; omega]
          refine hK.out _ _ (hS) (fun hS => ?_)
          clear hK K
          try simp only [List.setIfInBounds_toArray, List.set_cons_zero, List.set_cons_succ]
          refine wpAnyH_take (i := 10) (v := ?_) rfl (by kernel_rfl) (by kernel_rfl) (by kernel_rfl) (fun _ _ _ h => h) (Or.inl ⟨by rfl, fun V hV => ?_⟩) (by assumption) ?_
          rotate_left
          · go_simp
            try with_reducible rfl
          try simp only [Act.put, List.getElem_toArray, List.getElem_cons_zero, List.getElem_cons_succ, List.setIfInBounds_toArray, List.set_cons_zero, List.set_cons_succ]
          refine wpAnyH_take (i := 11) (v := ?_) rfl (by kernel_rfl) (by kernel_rfl) (by kernel_rfl) (fun _ _ _ h => h) (Or.inl ⟨by rfl, fun V hV => ?_⟩) (by assumption) ?_
          rotate_left
          · go_simp
            try with_reducible rfl
          try simp only [Act.put, List.getElem_toArray, List.getElem_cons_zero, List.getElem_cons_succ, List.setIfInBounds_toArray, List.set_cons_zero, List.set_cons_succ]
          refine wpAnyH_take (i := 12) (v := ?_) rfl (by kernel_rfl) (by kernel_rfl) (by kernel_rfl) (fun _ _ _ h => h) (Or.inl ⟨by rfl, fun V hV => ?_⟩) (by assumption) ?_
          rotate_left
          · go_simp
            try with_reducible rfl
          try simp only [Act.put, List.getElem_toArray, List.getElem_cons_zero, List.getElem_cons_succ, List.setIfInBounds_toArray, List.set_cons_zero, List.set_cons_succ]
          refine wpAnyH_take (i := 13) (v := ?_) rfl (by kernel_rfl) (by kernel_rfl) (by kernel_rfl) (fun _ _ _ h => h) (Or.inl ⟨by rfl, fun V hV => ?_⟩) (by assumption) ?_
          rotate_left
          · go_simp
            try with_reducible rfl
          try simp only [Act.put, List.getElem_toArray, List.getElem_cons_zero, List.getElem_cons_succ, List.setIfInBounds_toArray, List.set_cons_zero, List.set_cons_succ]
          refine wpAnyH_take (i := 14) (v := ?_) rfl (by kernel_rfl) (by kernel_rfl) (by kernel_rfl) (fun _ _ _ h => h) (Or.inl ⟨by rfl, fun V hV => ?_⟩) (by assumption) ?_
          rotate_left
          · go_simp
            try with_reducible rfl
          try simp only [Act.put, List.getElem_toArray, List.getElem_cons_zero, List.getElem_cons_succ, List.setIfInBounds_toArray, List.set_cons_zero, List.set_cons_succ]
          refine wpAnyH_take (i := 15) (v := undef) rfl (by kernel_rfl) (by kernel_rfl) (by kernel_rfl) (fun _ _ _ h => h) (Or.inr ⟨by rfl, rfl⟩) (by assumption) ?_
          try simp only [Act.put, List.getElem_toArray, List.getElem_cons_zero, List.getElem_cons_succ, List.setIfInBounds_toArray, List.set_cons_zero, List.set_cons_succ]
          refine wpAnyH_take (i := 16) (v := undef) rfl (by kernel_rfl) (by kernel_rfl) (by kernel_rfl) (fun _ _ _ h => h) (Or.inr ⟨by rfl, rfl⟩) (by assumption) ?_
          try simp only [Act.put, List.getElem_toArray, List.getElem_cons_zero, List.getElem_cons_succ, List.setIfInBounds_toArray, List.set_cons_zero, List.set_cons_succ]
          refine wpAnyH_take (i := 17) (v := undef) rfl (by kernel_rfl) (by kernel_rfl) (by kernel_rfl) (fun _ _ _ h => h) (Or.inr ⟨by rfl, rfl⟩) (by assumption) ?_
          try simp only [Act.put, List.getElem_toArray, List.getElem_cons_zero, List.getElem_cons_succ, List.setIfInBounds_toArray, List.set_cons_zero, List.set_cons_succ]
          refine wpAnyH_take (i := 18) (v := undef) rfl (by kernel_rfl) (by kernel_rfl) (by kernel_rfl) (fun _ _ _ h => h) (Or.inr ⟨by rfl, rfl⟩) (by assumption) ?_
          try simp only [Act.put, List.getElem_toArray, List.getElem_cons_zero, List.getElem_cons_succ, List.setIfInBounds_toArray, List.set_cons_zero, List.set_cons_succ]
          refine wpAnyH_take (i := 19) (v := undef) rfl (by kernel_rfl) (by kernel_rfl) (by kernel_rfl) (fun _ _ _ h => h) (Or.inr ⟨by rfl, rfl⟩) (by assumption) ?_
          try simp only [Act.put, List.getElem_toArray, List.getElem_cons_zero, List.getElem_cons_succ, List.setIfInBounds_toArray, List.set_cons_zero, List.set_cons_succ]
          refine wpAnyH_take (i := 20) (v := undef) rfl (by kernel_rfl) (by kernel_rfl) (by kernel_rfl) (fun _ _ _ h => h) (Or.inr ⟨by rfl, rfl⟩) (by assumption) ?_
          try simp only [Act.put, List.getElem_toArray, List.getElem_cons_zero, List.getElem_cons_succ, List.setIfInBounds_toArray, List.set_cons_zero, List.set_cons_succ]
          refine wpAnyH_take (i := 21) (v := undef) rfl (by kernel_rfl) (by kernel_rfl) (by kernel_rfl) (fun _ _ _ h => h) (Or.inr ⟨by rfl, rfl⟩) (by assumption) ?_
          try simp only [Act.put, List.getElem_toArray, List.getElem_cons_zero, List.getElem_cons_succ, List.setIfInBounds_toArray, List.set_cons_zero, List.set_cons_succ]
          refine wpAnyH_take (i := 22) (v := undef) rfl (by kernel_rfl) (by kernel_rfl) (by kernel_rfl) (fun _ _ _ h => h) (Or.inr ⟨by rfl, rfl⟩) (by assumption) ?_
          try simp only [Act.put, List.getElem_toArray, List.getElem_cons_zero, List.getElem_cons_succ, List.setIfInBounds_toArray, List.set_cons_zero, List.set_cons_succ]
          refine wpAnyH_take (i := 23) (v := undef) rfl (by kernel_rfl) (by kernel_rfl) (by kernel_rfl) (fun _ _ _ h => h) (Or.inr ⟨by rfl, rfl⟩) (by assumption) ?_
          try simp only [Act.put, List.getElem_toArray, List.getElem_cons_zero, List.getElem_cons_succ, List.setIfInBounds_toArray, List.set_cons_zero, List.set_cons_succ]
          refine wpAnyH_take (i := 24) (v := undef) rfl (by kernel_rfl) (by kernel_rfl) (by kernel_rfl) (fun _ _ _ h => h) (Or.inr ⟨by rfl, rfl⟩) (by assumption) ?_
          try simp only [Act.put, List.getElem_toArray, List.getElem_cons_zero, List.getElem_cons_succ, List.setIfInBounds_toArray, List.set_cons_zero, List.set_cons_succ]
          refine wpAnyH_take (i := 25) (v := ?_) rfl (by kernel_rfl) (by kernel_rfl) (by kernel_rfl) (fun _ _ _ h => h) (Or.inl ⟨by rfl, fun V hV => ?_⟩) (by assumption) ?_
          rotate_left
          · go_simp
            try with_reducible rfl
          try simp only [Act.put, List.getElem_toArray, List.getElem_cons_zero, List.getElem_cons_succ, List.setIfInBounds_toArray, List.set_cons_zero, List.set_cons_succ]
          refine wpAnyH_take (i := 26) (v := ?_) rfl (by kernel_rfl) (by kernel_rfl) (by kernel_rfl) (fun _ _ _ h => h) (Or.inl ⟨by rfl, fun V hV => ?_⟩) (by assumption) ?_
          rotate_left
          · go_simp
            try with_reducible rfl
          try simp only [Act.put, List.getElem_toArray, List.getElem_cons_zero, List.getElem_cons_succ, List.setIfInBounds_toArray, List.set_cons_zero, List.set_cons_succ]
          refine wpAnyH_done (by kernel_rfl) ?_ _
          have HSX := hid hS
          clear hS
          have hc := HSX.out.2.get hlt
          rw [HGX.out, Nat.add_zero] at hc
          have hn12 : nx ≤ 9 := HNX9.out
          have g0 := HSX.out.1.c0
          have e1 : IntKind.u64.wrap (j : Int) = (j : Int) := by rw [IntKind.wrap_u64]; omega
          have e3 : IntKind.i64.wrap (2 ^ j) = 2 ^ j := IntWalk.i64_in _ (by have := pow_bd (show j ≤ 9 by omega); omega)
          have e4 : bits .or .i64 (sk : Int) (2 ^ j) = ((setOf X (0 + 1) : Nat) : Int) := by
            have h2 : ((2 ^ j : Nat) : Int) = (2 : Int) ^ j := (by simp)
            rw [← h2, i64_or_nat _ _ (by rw [← HSK.out]; exact setOf_lt _ _) (by have := Nat.pow_lt_pow_right (a := 2) (by decide) hj12; omega), setOf_succ HXK.out (by omega), HSK.out]
          clear hjj
          go_wp2
          go_roundw
          case rel => exact ⟨0 + 1, by omega, by go_num, rfl, HSX.out.1, HSX.out.2⟩
          case measure => simp [intOf]; omega
        · skip
          obtain ⟨kk, hkk1⟩ : ∃ a, k - 1 = a := ⟨_, rfl⟩
          have hkk : kk < nx := by omega
          have HWK : Hid (IntKind.i64.wrap ((k : Int) - 1) = (kk : Int)) := by show _ = _; rw [IntWalk.i64_in _ (by have := HNX9.out; omega)]; omega
          have HK0 : Hid (decide ((k : Int) > 0) = true) := by show _ = _; simp; omega
          have hxl2 : kk < X.length := by have := HNX.out; omega
          have hXk2 : X[kk]? = some X[kk] := List.getElem?_eq_getElem hxl2
          have hmem2 := incr_mem HXP.out.1 _ (List.getElem_mem hxl2)
          obtain ⟨a0, ha0⟩ : ∃ j : Nat, X[kk] = (j : Int) := ⟨X[kk].toNat, by omega⟩
          rw [ha0] at hXk2
          have HJA : Hid (a0 < j) := by have h := incr_get HXP.out.1 kk _ _ hXk2 (by rw [show kk + 1 = k by omega]; exact HXK.out); show a0 < j; omega
          have HGK : Hid (X[kk]?.getD 0 = (a0 : Int)) := by show _ = _; rw [hXk2]; rfl
          clear hkk1 hxl2 hXk2 hmem2 ha0
          refine wp_region_held_drew (S := fun V => SAt w r cc p n c l sm q m d cs V ∧ IntsAt V (some ⟨bx, ox, none⟩) nx X) (by kernel_rfl) (⟨HS5.out.drewN 1, HX5.out⟩) (fun hS => ?_)
          simp only [List.size_toArray, List.length_cons, List.length_nil, Nat.reduceAdd, Array.replicate_succ, Array.replicate_zero, List.push_toArray, List.nil_append, List.cons_append]
          refine wpAnyH_take (i := 0) (v := ?_) rfl (by kernel_rfl) (by kernel_rfl) (by kernel_rfl) (fun _ _ _ h => h) (Or.inl ⟨by rfl, fun V hV => ?_⟩) (by assumption) ?_
          rotate_left
          · go_simp
            try with_reducible rfl
          try simp only [Act.put, List.getElem_toArray, List.getElem_cons_zero, List.setIfInBounds_toArray, List.set_cons_zero, List.set_cons_succ]
          refine wpAnyH_take (i := 1) (v := ?_) rfl (by kernel_rfl) (by kernel_rfl) (by kernel_rfl) (fun _ _ _ h => h) (Or.inl ⟨by rfl, fun V hV => ?_⟩) (by assumption) ?_
          rotate_left
          · go_simp
            try with_reducible rfl
          try simp only [Act.put, List.getElem_toArray, List.getElem_cons_zero, List.getElem_cons_succ, List.setIfInBounds_toArray, List.set_cons_zero, List.set_cons_succ]
          refine wpAnyH_take (i := 2) (v := ?_) rfl (by kernel_rfl) (by kernel_rfl) (by kernel_rfl) (fun _ _ _ h => h) (Or.inl ⟨by rfl, fun V hV => ?_⟩) (by assumption) ?_
          rotate_left
          · go_simp
            try with_reducible rfl
          try simp only [Act.put, List.getElem_toArray, List.getElem_cons_zero, List.getElem_cons_succ, List.setIfInBounds_toArray, List.set_cons_zero, List.set_cons_succ]
          refine wpAnyH_take (i := 3) (v := ?_) rfl (by kernel_rfl) (by kernel_rfl) (by kernel_rfl) (fun _ _ _ h => h) (Or.inl ⟨by rfl, fun V hV => ?_⟩) (by assumption) ?_
          rotate_left
          · have hc := hV.2.get hlt; rw [HGX.out] at hc; go_simp
            try with_reducible rfl
          try simp only [Act.put, List.getElem_toArray, List.getElem_cons_zero, List.getElem_cons_succ, List.setIfInBounds_toArray, List.set_cons_zero, List.set_cons_succ]
          refine wpAnyH_take (i := 4) (v := ?_) rfl (by kernel_rfl) (by kernel_rfl) (by kernel_rfl) (fun _ _ _ h => h) (Or.inl ⟨by rfl, fun V hV => ?_⟩) (by assumption) ?_
          rotate_left
          · go_simp
            try with_reducible rfl
          try simp only [Act.put, List.getElem_toArray, List.getElem_cons_zero, List.getElem_cons_succ, List.setIfInBounds_toArray, List.set_cons_zero, List.set_cons_succ]
          refine wpAnyH_take (i := 5) (v := ?_) rfl (by kernel_rfl) (by kernel_rfl) (by kernel_rfl) (fun _ _ _ h => h) (Or.inl ⟨by rfl, fun V hV => ?_⟩) (by assumption) ?_
          rotate_left
          · go_simp
            try with_reducible rfl
          try simp only [Act.put, List.getElem_toArray, List.getElem_cons_zero, List.getElem_cons_succ, List.setIfInBounds_toArray, List.set_cons_zero, List.set_cons_succ]
          refine wpAnyH_take (i := 6) (v := ?_) rfl (by kernel_rfl) (by kernel_rfl) (by kernel_rfl) (fun _ _ _ h => h) (Or.inl ⟨by rfl, fun V hV => ?_⟩) (by assumption) ?_
          rotate_left
          · have g2 := hV.1.c2; go_simp
            try with_reducible rfl
          try simp only [Act.put, List.getElem_toArray, List.getElem_cons_zero, List.getElem_cons_succ, List.setIfInBounds_toArray, List.set_cons_zero, List.set_cons_succ]
          refine wpAnyH_take (i := 7) (v := ?_) rfl (by kernel_rfl) (by kernel_rfl) (by kernel_rfl) (fun _ _ _ h => h) (Or.inl ⟨by rfl, fun V hV => ?_⟩) (by assumption) ?_
          rotate_left
          · go_simp
            try with_reducible rfl
          try simp only [Act.put, List.getElem_toArray, List.getElem_cons_zero, List.getElem_cons_succ, List.setIfInBounds_toArray, List.set_cons_zero, List.set_cons_succ]
          refine wpAnyH_take (i := 8) (v := ?_) rfl (by kernel_rfl) (by kernel_rfl) (by kernel_rfl) (fun _ _ _ h => h) (Or.inl ⟨by rfl, fun V hV => ?_⟩) (by assumption) ?_
          rotate_left
          · have e1 : IntKind.i64.wrap ((n : Int) - 1) = (n : Int) - 1 := IntWalk.i64_in _ (by have := HN1.out; omega); go_simp
            try with_reducible rfl
          try simp only [Act.put, List.getElem_toArray, List.getElem_cons_zero, List.getElem_cons_succ, List.setIfInBounds_toArray, List.set_cons_zero, List.set_cons_succ]
          refine wpAnyH_ready (rs := [9]) (by kernel_rfl) (by simp) ?_
          refine AllReadyH.cons (o := _) rfl (fun K hK => ?_) AllReadyH.nil
          go_simp
          refine (in_any _ _ _ _).mono ?_
          rintro e w81 ⟨rfl, rfl⟩
          rw [show inB (j : Int) 0 ((n : Int) - 1) = true from by simp [inB]; omega]
          refine hK.out _ _ (hS) (fun hS => ?_)
          clear hK K
          try simp only [List.setIfInBounds_toArray, List.set_cons_zero, List.set_cons_succ]
          refine wpAnyH_take (i := 10) (v := ?_) rfl (by kernel_rfl) (by kernel_rfl) (by kernel_rfl) (fun _ _ _ h => h) (Or.inl ⟨by rfl, fun V hV => ?_⟩) (by assumption) ?_
          rotate_left
          · go_simp
            try with_reducible rfl
          try simp only [Act.put, List.getElem_toArray, List.getElem_cons_zero, List.getElem_cons_succ, List.setIfInBounds_toArray, List.set_cons_zero, List.set_cons_succ]
          refine wpAnyH_take (i := 11) (v := ?_) rfl (by kernel_rfl) (by kernel_rfl) (by kernel_rfl) (fun _ _ _ h => h) (Or.inl ⟨by rfl, fun V hV => ?_⟩) (by assumption) ?_
          rotate_left
          · go_simp
            try with_reducible rfl
          try simp only [Act.put, List.getElem_toArray, List.getElem_cons_zero, List.getElem_cons_succ, List.setIfInBounds_toArray, List.set_cons_zero, List.set_cons_succ]
          refine wpAnyH_take (i := 12) (v := ?_) rfl (by kernel_rfl) (by kernel_rfl) (by kernel_rfl) (fun _ _ _ h => h) (Or.inl ⟨by rfl, fun V hV => ?_⟩) (by assumption) ?_
          rotate_left
          · go_simp
            try with_reducible rfl
          try simp only [Act.put, List.getElem_toArray, List.getElem_cons_zero, List.getElem_cons_succ, List.setIfInBounds_toArray, List.set_cons_zero, List.set_cons_succ]
          refine wpAnyH_take (i := 13) (v := ?_) rfl (by kernel_rfl) (by kernel_rfl) (by kernel_rfl) (fun _ _ _ h => h) (Or.inl ⟨by rfl, fun V hV => ?_⟩) (by assumption) ?_
          rotate_left
          · have e1 : decide ((k : Int) > 0) = true := HK0.out; have e2 : decide ((0 : Int) < k) = true := HK0.out; have e3 : (0 : Int) < k := (by simpa using HK0.out); have e4 : 0 < k := (by omega); go_simp
            try with_reducible rfl
          try simp only [Act.put, List.getElem_toArray, List.getElem_cons_zero, List.getElem_cons_succ, List.setIfInBounds_toArray, List.set_cons_zero, List.set_cons_succ]
          refine wpAnyH_take (i := 14) (v := ?_) rfl (by kernel_rfl) (by kernel_rfl) (by kernel_rfl) (fun _ _ _ h => h) (Or.inl ⟨by rfl, fun V hV => ?_⟩) (by assumption) ?_
          rotate_left
          · go_simp
            try with_reducible rfl
          try simp only [Act.put, List.getElem_toArray, List.getElem_cons_zero, List.getElem_cons_succ, List.setIfInBounds_toArray, List.set_cons_zero, List.set_cons_succ]
          refine wpAnyH_take (i := 15) (v := ?_) rfl (by kernel_rfl) (by kernel_rfl) (by kernel_rfl) (fun _ _ _ h => h) (Or.inl ⟨by rfl, fun V hV => ?_⟩) (by assumption) ?_
          rotate_left
          · go_simp
            try with_reducible rfl
          try simp only [Act.put, List.getElem_toArray, List.getElem_cons_zero, List.getElem_cons_succ, List.setIfInBounds_toArray, List.set_cons_zero, List.set_cons_succ]
          refine wpAnyH_take (i := 16) (v := ?_) rfl (by kernel_rfl) (by kernel_rfl) (by kernel_rfl) (fun _ _ _ h => h) (Or.inl ⟨by rfl, fun V hV => ?_⟩) (by assumption) ?_
          rotate_left
          · go_simp
            try with_reducible rfl
          try simp only [Act.put, List.getElem_toArray, List.getElem_cons_zero, List.getElem_cons_succ, List.setIfInBounds_toArray, List.set_cons_zero, List.set_cons_succ]
          refine wpAnyH_take (i := 17) (v := ?_) rfl (by kernel_rfl) (by kernel_rfl) (by kernel_rfl) (fun _ _ _ h => h) (Or.inl ⟨by rfl, fun V hV => ?_⟩) (by assumption) ?_
          rotate_left
          · go_simp
            try with_reducible rfl
          try simp only [Act.put, List.getElem_toArray, List.getElem_cons_zero, List.getElem_cons_succ, List.setIfInBounds_toArray, List.set_cons_zero, List.set_cons_succ]
          refine wpAnyH_take (i := 18) (v := ?_) rfl (by kernel_rfl) (by kernel_rfl) (by kernel_rfl) (fun _ _ _ h => h) (Or.inl ⟨by rfl, fun V hV => ?_⟩) (by assumption) ?_
          rotate_left
          · have hc := hV.2.get hlt; rw [HGX.out] at hc; go_simp
            try with_reducible rfl
          try simp only [Act.put, List.getElem_toArray, List.getElem_cons_zero, List.getElem_cons_succ, List.setIfInBounds_toArray, List.set_cons_zero, List.set_cons_succ]
          refine wpAnyH_take (i := 19) (v := ?_) rfl (by kernel_rfl) (by kernel_rfl) (by kernel_rfl) (fun _ _ _ h => h) (Or.inl ⟨by rfl, fun V hV => ?_⟩) (by assumption) ?_
          rotate_left
          · go_simp
            try with_reducible rfl
          try simp only [Act.put, List.getElem_toArray, List.getElem_cons_zero, List.getElem_cons_succ, List.setIfInBounds_toArray, List.set_cons_zero, List.set_cons_succ]
          refine wpAnyH_take (i := 20) (v := ?_) rfl (by kernel_rfl) (by kernel_rfl) (by kernel_rfl) (fun _ _ _ h => h) (Or.inl ⟨by rfl, fun V hV => ?_⟩) (by assumption) ?_
          rotate_left
          · go_simp
            try with_reducible rfl
          try simp only [Act.put, List.getElem_toArray, List.getElem_cons_zero, List.getElem_cons_succ, List.setIfInBounds_toArray, List.set_cons_zero, List.set_cons_succ]
          refine wpAnyH_take (i := 21) (v := ?_) rfl (by kernel_rfl) (by kernel_rfl) (by kernel_rfl) (fun _ _ _ h => h) (Or.inl ⟨by rfl, fun V hV => ?_⟩) (by assumption) ?_
          rotate_left
          · have e1 : IntKind.i64.wrap ((k : Int) - 1) = (kk : Int) := HWK.out; go_simp
            try with_reducible rfl
          try simp only [Act.put, List.getElem_toArray, List.getElem_cons_zero, List.getElem_cons_succ, List.setIfInBounds_toArray, List.set_cons_zero, List.set_cons_succ]
          refine wpAnyH_take (i := 22) (v := ?_) rfl (by kernel_rfl) (by kernel_rfl) (by kernel_rfl) (fun _ _ _ h => h) (Or.inl ⟨by rfl, fun V hV => ?_⟩) (by assumption) ?_
          rotate_left
          · go_simp
            try with_reducible rfl
          try simp only [Act.put, List.getElem_toArray, List.getElem_cons_zero, List.getElem_cons_succ, List.setIfInBounds_toArray, List.set_cons_zero, List.set_cons_succ]
          refine wpAnyH_take (i := 23) (v := ?_) rfl (by kernel_rfl) (by kernel_rfl) (by kernel_rfl) (fun _ _ _ h => h) (Or.inl ⟨by rfl, fun V hV => ?_⟩) (by assumption) ?_
          rotate_left
          · have hc := hV.2.get hkk; rw [HGK.out] at hc; go_simp
            try with_reducible rfl
          try simp only [Act.put, List.getElem_toArray, List.getElem_cons_zero, List.getElem_cons_succ, List.setIfInBounds_toArray, List.set_cons_zero, List.set_cons_succ]
          refine wpAnyH_take (i := 24) (v := ?_) rfl (by kernel_rfl) (by kernel_rfl) (by kernel_rfl) (fun _ _ _ h => h) (Or.inl ⟨by rfl, fun V hV => ?_⟩) (by assumption) ?_
          rotate_left
          · have e1 : ¬ (j : Int) ≤ (a0 : Int) := (by have := HJA.out; omega); have e2 : decide ((j : Int) ≤ a0) = false := (by simp; have := HJA.out; omega); go_simp
            try with_reducible rfl
          try simp only [Act.put, List.getElem_toArray, List.getElem_cons_zero, List.getElem_cons_succ, List.setIfInBounds_toArray, List.set_cons_zero, List.set_cons_succ]
          refine wpAnyH_take (i := 25) (v := ?_) rfl (by kernel_rfl) (by kernel_rfl) (by kernel_rfl) (fun _ _ _ h => h) (Or.inl ⟨by rfl, fun V hV => ?_⟩) (by assumption) ?_
          rotate_left
          · go_simp
            try with_reducible rfl
          try simp only [Act.put, List.getElem_toArray, List.getElem_cons_zero, List.getElem_cons_succ, List.setIfInBounds_toArray, List.set_cons_zero, List.set_cons_succ]
          refine wpAnyH_take (i := 26) (v := ?_) rfl (by kernel_rfl) (by kernel_rfl) (by kernel_rfl) (fun _ _ _ h => h) (Or.inl ⟨by rfl, fun V hV => ?_⟩) (by assumption) ?_
          rotate_left
          · go_simp
            try with_reducible rfl
          try simp only [Act.put, List.getElem_toArray, List.getElem_cons_zero, List.getElem_cons_succ, List.setIfInBounds_toArray, List.set_cons_zero, List.set_cons_succ]
          refine wpAnyH_done (by kernel_rfl) ?_ _
          have HSX := hid hS
          clear hS
          have hc := HSX.out.2.get hlt
          rw [HGX.out] at hc
          have hn12 : nx ≤ 9 := HNX9.out
          have g0 := HSX.out.1.c0
          have e1 : IntKind.u64.wrap (j : Int) = (j : Int) := by rw [IntKind.wrap_u64]; omega
          have e3 : IntKind.i64.wrap (2 ^ j) = 2 ^ j := IntWalk.i64_in _ (by have := pow_bd (show j ≤ 9 by omega); omega)
          have e4 : bits .or .i64 (sk : Int) (2 ^ j) = ((setOf X (k + 1) : Nat) : Int) := by
            have h2 : ((2 ^ j : Nat) : Int) = (2 : Int) ^ j := (by simp)
            rw [← h2, i64_or_nat _ _ (by rw [← HSK.out]; exact setOf_lt _ _) (by have := Nat.pow_lt_pow_right (a := 2) (by decide) hj12; omega), setOf_succ HXK.out (by omega), HSK.out]
          clear hjj
          go_wp2
          go_roundw
          case rel => exact ⟨k + 1, by omega, by go_num, rfl, HSX.out.1, HSX.out.2⟩
          case measure => simp [intOf]; omega
      · skip
        obtain rfl : nx = k := by omega
        have hbits : bitsL ((sk : Nat) : Int) = X := by rw [← HSK.out, HNX.out.1]; exact setOf_bits (by have := HNX.out; have := HN1.out; omega) HXP.out.1
        have hok := truths_ok HF.out
        have hl9 : l.length ≤ 9 := HFF.out.2.2.2.2.2.2.1
        have hdec : decideB l (truthsL cc l sm cs 0) n0 ((sk : Nat) : Int) = true := by rw [few_key hok hl9, hbits]; exact HXP.out.2.1
        have hsk12 : sk < 4096 := by rw [← HSK.out]; exact setOf_lt _ _
        have HDC := hid hdec; have HS12 := hid hsk12; have HOK := hid hok; have HL9 := hid hl9
        clear hbits hdec hsk12 hok hl9
        obtain ⟨tr, htr⟩ : ∃ a : Int, z % 2 ^ n = a := ⟨_, rfl⟩
        have hp2 : (1 : Int) ≤ 2 ^ n ∧ (2 : Int) ^ n ≤ 512 := pow_bd (by have := HN1.out; omega)
        have htr2 : 0 ≤ tr ∧ tr < 512 := by rw [← htr]; refine ⟨Int.emod_nonneg _ (by omega), ?_⟩; have := Int.emod_lt_of_pos z (show (0 : Int) < 2 ^ n by omega); omega
        obtain ⟨tn, rfl⟩ : ∃ a : Nat, tr = (a : Int) := ⟨tr.toNat, by omega⟩
        have HTN : Hid (tn < 512) := by show tn < 512; omega
        have htm : tn < 2 ^ n := by have h := Int.emod_lt_of_pos z (show (0 : Int) < 2 ^ n by omega); rw [htr] at h; have h2 : ((2 ^ n : Nat) : Int) = (2 : Int) ^ n := (by simp); omega
        have HTM := hid htm
        obtain ⟨pw, hpw⟩ : ∃ a : Int, 2 ^ n = a := ⟨_, rfl⟩
        have e1 : IntKind.i64.wrap z = z := IntWalk.i64_in _ (by have := HZZ.out; omega)
        have e2 : IntKind.u64.wrap (n : Int) = (n : Int) := by rw [IntKind.wrap_u64]; have := HN1.out; omega
        have e3 : IntKind.i64.wrap (2 ^ n) = pw := by rw [IntWalk.i64_in _ (by omega), hpw]
        have e3n : ¬ pw = 0 := by omega
        have e4 : z.tmod pw = (tn : Int) := by rw [← hpw, Int.tmod_eq_emod_of_nonneg HZZ.out.1]; exact htr
        have e5 : IntKind.i64.wrap (tn : Int) = (tn : Int) := IntWalk.i64_in _ (by omega)
        clear htr hp2 htr2 htm hpw
        have hn9 : n ≤ 9 := HN1.out.2
        go_wp2_with fail
        refine (truths_any r cc p n c l sm q m d cs 0 _ HS5.out.ints HS5.out.cnts (oks_of HF.out) (by decide) (by decide)).mono ?_
        rintro e w6 ⟨v3, rfl, ho, hb⟩
        have HS6 := hid (HS5.out.step hb)
        have HX6 := hid (HX5.out.below hb)
        obtain ⟨pt, ct, rfl, h3⟩ := ho.slice
        obtain ⟨nt, hnt⟩ : ∃ a, (truthsL cc l sm cs 0).length = a := ⟨_, rfl⟩
        obtain ⟨T, hT⟩ : ∃ a, truthsL cc l sm cs 0 = a := ⟨_, rfl⟩
        rw [hnt] at h3 ⊢
        rw [hT] at h3 hnt HOK HDC
        have HT6 := hid h3; have HNT := hid hnt; have HTE := hid hT
        clear ho h3 hnt hT
        clear hb g0 g1 g2 g3 g4
        have g0 := HS6.out.c0; have g1 := HS6.out.c1; have g2 := HS6.out.c2; have g3 := HS6.out.c3; have g4 := HS6.out.c4
        clear e1 e2 e3 e3n e4 e5 hn9
        have HNT4 : Hid (nt ≤ 4000) := by have h1 := HNT.out; have h2 := HOK.out.few; show nt ≤ 4000; omega
        go_wp2_with fail
        refine (decide_any r cc p n c l sm q m d cs pt nt ct T n0 (sk : Int) _ HS6.out.ints HT6.out HNT4.out (oks_of HF.out) (fun x hx => by have := HOK.out.num x hx; omega) (by omega) (by have := HS12.out; omega)).mono ?_
        rintro e w7 ⟨rfl, hb⟩
        have HS7 := hid (HS6.out.step hb)
        have HX7 := hid (HX6.out.below hb)
        have HT7 := hid (HT6.out.below hb)
        rw [HDC.out]
        clear hb g0 g1 g2 g3 g4
        have g0 := HS7.out.c0; have g1 := HS7.out.c1; have g2 := HS7.out.c2; have g3 := HS7.out.c3; have g4 := HS7.out.c4
        go_wp2_with fail
        refine (bits_any (tn : Int) _ (by omega) (by have := HTN.out; omega)).mono ?_
        rintro e w8 ⟨v6, rfl, ho, hb⟩
        have HS8 := hid (HS7.out.step hb)
        have HX8 := hid (HX7.out.below hb)
        have HT8 := hid (HT7.out.below hb)
        obtain ⟨p6, c6, rfl, h6⟩ := ho.slice
        have H6 := hid h6
        have HBL : Hid ((bitsL (tn : Int)).length ≤ 1000000) := Nat.le_trans (bitsTo_len (tn : Int) 12) (by decide)
        clear ho h6
        clear hb g0 g1 g2 g3 g4
        have g0 := HS8.out.c0; have g1 := HS8.out.c1; have g2 := HS8.out.c2; have g3 := HS8.out.c3; have g4 := HS8.out.c4
        go_wp2_with fail
        refine (shorter_any p6 (bitsL (tn : Int)).length c6 (bitsL (tn : Int)) px nx cx X _ H6.out HX8.out HBL.out (by have := HNX9.out; omega)).mono ?_
        rintro e w91 ⟨rfl, nn, hw⟩
        have hb : Below w8.heap.size w8 w91 := by rw [hw]; exact below_drewN (Below.refl _ _) _
        have HS9 := hid (HS8.out.step hb)
        have HX9 := hid (HX8.out.below hb)
        have HT9 := hid (HT8.out.below hb)
        clear hw hb g0 g1 g2 g3 g4
        have g0 := HS9.out.c0; have g1 := HS9.out.c1; have g2 := HS9.out.c2; have g3 := HS9.out.c3; have g4 := HS9.out.c4
        obtain ⟨sh, hsh⟩ : ∃ a, shorterB (bitsL (tn : Int)) X = a := ⟨_, rfl⟩
        rw [hsh]
        have HSH := hid hsh
        clear hsh
        cases sh with
        | true =>
          have hdf : decideB l T n0 (tn : Int) = false := by
            cases h : decideB l T n0 (tn : Int) with
            | false => rfl
            | true =>
              have h2 := HXP.out.2.2 (bitsL (tn : Int)) (by rw [← HNX.out.2]; exact bitsL_incr HTM.out (by have := HN1.out; omega)) (by rw [← few_key HOK.out HL9.out]; exact h)
              rw [HSH.out] at h2; cases h2
          have HDF := hid hdf
          clear hdf
          go_wp2_with fail
          refine (decide_any r cc p n c l sm q m d cs pt nt ct T n0 (tn : Int) _ HS9.out.ints HT9.out HNT4.out (oks_of HF.out) (fun x hx => by have := HOK.out.num x hx; omega) (by omega) (by have := HTN.out; omega)).mono ?_
          rintro e w10 ⟨rfl, hb⟩
          have HS10 := hid (HS9.out.step hb)
          have HX10 := hid (HX9.out.below hb)
          have HT10 := hid (HT9.out.below hb)
          rw [HDF.out]
          clear hb g0 g1 g2 g3 g4
          have g0 := HS10.out.c0; have g1 := HS10.out.c1; have g2 := HS10.out.c2; have g3 := HS10.out.c3; have g4 := HS10.out.c4
          have hnt1 : 1 ≤ nt := by
            have h1 := HNT.out
            have h2 : T ≠ [] := fun e => HG.out (HOK.out.nil.2 e)
            cases T with
            | nil => exact absurd rfl h2
            | cons _ _ => simp at h1; omega
          obtain ⟨ii, hii⟩ : ∃ a : Int, x % (nt : Int) = a := ⟨_, rfl⟩
          have hib : 0 ≤ ii ∧ ii < nt := by rw [← hii]; exact ⟨Int.emod_nonneg _ (by omega), Int.emod_lt_of_pos _ (by omega)⟩
          obtain ⟨i0, rfl⟩ : ∃ a : Nat, ii = (a : Int) := ⟨ii.toNat, by omega⟩
          have hi0 : i0 < nt := by omega
          have hil : i0 < T.length := by have := HNT.out; omega
          obtain ⟨kr, hkr⟩ : ∃ a, T[i0]?.getD 0 = a := ⟨_, rfl⟩
          have hkm : kr ∈ T := by rw [← hkr]; exact getD_mem hil
          have HKB := hid (HOK.out.num kr hkm)
          have HKR := hid hkr
          have hhm : nthG l kr ∈ genP (okP cs [] cc sm) l 0 [] := (HOK.out.mem _).2 ⟨kr, hkm, rfl⟩
          obtain ⟨hh, hhe⟩ : ∃ a, nthG l kr = a := ⟨_, rfl⟩
          rw [hhe] at hhm
          have HHM := hid hhm; have HHE := hid hhe; have HI0 := hid hi0; have HII := hid hii; have HNT1 := hid hnt1
          obtain ⟨bt, ot, hpt, _, _⟩ := HT10.out.at hi0
          subst hpt
          clear hnt1 hii hib hil hkr hkm hhm hhe
          go_wp2_with fail
          have hxx : IntsAt w10.drew px nx X := HX10.out
          refine wp_region_held_drew (S := fun V => SAt w r cc p n c l sm q m d cs V ∧ IntsAt V (some ⟨bt, ot, none⟩) nt T) (by kernel_rfl) (⟨HS10.out.drewN 1, HT10.out⟩) (fun hS => ?_)
          simp only [List.size_toArray, List.length_cons, List.length_nil, Nat.reduceAdd, Array.replicate_succ, Array.replicate_zero, List.push_toArray, List.nil_append, List.cons_append]
          refine wpAnyH_take (i := 0) (v := ?_) rfl (by kernel_rfl) (by kernel_rfl) (by kernel_rfl) (fun _ _ _ h => h) (Or.inl ⟨by rfl, fun V hV => ?_⟩) (by assumption) ?_
          rotate_left
          · go_simp
            try with_reducible rfl
          try simp only [Act.put, List.getElem_toArray, List.getElem_cons_zero, List.setIfInBounds_toArray, List.set_cons_zero, List.set_cons_succ]
          refine wpAnyH_take (i := 1) (v := ?_) rfl (by kernel_rfl) (by kernel_rfl) (by kernel_rfl) (fun _ _ _ h => h) (Or.inl ⟨by rfl, fun V hV => ?_⟩) (by assumption) ?_
          rotate_left
          · have g0 := hV.1.c0; have g1 := hV.1.c1; have g2 := hV.1.c2; go_simp
            try with_reducible rfl
          try simp only [Act.put, List.getElem_toArray, List.getElem_cons_zero, List.getElem_cons_succ, List.setIfInBounds_toArray, List.set_cons_zero, List.set_cons_succ]
          refine wpAnyH_take (i := 2) (v := ?_) rfl (by kernel_rfl) (by kernel_rfl) (by kernel_rfl) (fun _ _ _ h => h) (Or.inl ⟨by rfl, fun V hV => ?_⟩) (by assumption) ?_
          rotate_left
          · go_simp
            try with_reducible rfl
          try simp only [Act.put, List.getElem_toArray, List.getElem_cons_zero, List.getElem_cons_succ, List.setIfInBounds_toArray, List.set_cons_zero, List.set_cons_succ]
          refine wpAnyH_take (i := 3) (v := ?_) rfl (by kernel_rfl) (by kernel_rfl) (by kernel_rfl) (fun _ _ _ h => h) (Or.inl ⟨by rfl, fun V hV => ?_⟩) (by assumption) ?_
          rotate_left
          · go_simp
            try with_reducible rfl
          try simp only [Act.put, List.getElem_toArray, List.getElem_cons_zero, List.getElem_cons_succ, List.setIfInBounds_toArray, List.set_cons_zero, List.set_cons_succ]
          refine wpAnyH_take (i := 4) (v := ?_) rfl (by kernel_rfl) (by kernel_rfl) (by kernel_rfl) (fun _ _ _ h => h) (Or.inl ⟨by rfl, fun V hV => ?_⟩) (by assumption) ?_
          rotate_left
          · have e1 : IntKind.i64.wrap x = x := IntWalk.i64_in _ (by have := HXX.out; omega); go_simp
            try with_reducible rfl
          try simp only [Act.put, List.getElem_toArray, List.getElem_cons_zero, List.getElem_cons_succ, List.setIfInBounds_toArray, List.set_cons_zero, List.set_cons_succ]
          refine wpAnyH_take (i := 5) (v := ?_) rfl (by kernel_rfl) (by kernel_rfl) (by kernel_rfl) (fun _ _ _ h => h) (Or.inl ⟨by rfl, fun V hV => ?_⟩) (by assumption) ?_
          rotate_left
          · go_simp
            try with_reducible rfl
          try simp only [Act.put, List.getElem_toArray, List.getElem_cons_zero, List.getElem_cons_succ, List.setIfInBounds_toArray, List.set_cons_zero, List.set_cons_succ]
          refine wpAnyH_take (i := 6) (v := ?_) rfl (by kernel_rfl) (by kernel_rfl) (by kernel_rfl) (fun _ _ _ h => h) (Or.inl ⟨by rfl, fun V hV => ?_⟩) (by assumption) ?_
          rotate_left
          · go_simp
            try with_reducible rfl
          try simp only [Act.put, List.getElem_toArray, List.getElem_cons_zero, List.getElem_cons_succ, List.setIfInBounds_toArray, List.set_cons_zero, List.set_cons_succ]
          refine wpAnyH_take (i := 7) (v := ?_) rfl (by kernel_rfl) (by kernel_rfl) (by kernel_rfl) (fun _ _ _ h => h) (Or.inl ⟨by rfl, fun V hV => ?_⟩) (by assumption) ?_
          rotate_left
          · have e2b : ¬ nt = 0 := (by have := HNT1.out; omega); have e2 : ¬ (nt : Int) = 0 := (by have := HNT1.out; omega); have e3 : x.tmod (nt : Int) = (i0 : Int) := (by rw [Int.tmod_eq_emod_of_nonneg HXX.out.1]; exact HII.out); have e4 : IntKind.i64.wrap (i0 : Int) = (i0 : Int) := IntWalk.i64_in _ (by have := HI0.out; have := HNT4.out; omega); go_simp
            try with_reducible rfl
          try simp only [Act.put, List.getElem_toArray, List.getElem_cons_zero, List.getElem_cons_succ, List.setIfInBounds_toArray, List.set_cons_zero, List.set_cons_succ]
          refine wpAnyH_take (i := 8) (v := ?_) rfl (by kernel_rfl) (by kernel_rfl) (by kernel_rfl) (fun _ _ _ h => h) (Or.inl ⟨by rfl, fun V hV => ?_⟩) (by assumption) ?_
          rotate_left
          · go_simp
            try with_reducible rfl
          try simp only [Act.put, List.getElem_toArray, List.getElem_cons_zero, List.getElem_cons_succ, List.setIfInBounds_toArray, List.set_cons_zero, List.set_cons_succ]
          refine wpAnyH_take (i := 9) (v := ?_) rfl (by kernel_rfl) (by kernel_rfl) (by kernel_rfl) (fun _ _ _ h => h) (Or.inl ⟨by rfl, fun V hV => ?_⟩) (by assumption) ?_
          rotate_left
          · have hc := hV.2.get hi0; rw [HKR.out] at hc; go_simp
            try with_reducible rfl
          try simp only [Act.put, List.getElem_toArray, List.getElem_cons_zero, List.getElem_cons_succ, List.setIfInBounds_toArray, List.set_cons_zero, List.set_cons_succ]
          refine wpAnyH_ready (rs := [10]) (by kernel_rfl) (by simp) ?_
          refine AllReadyH.cons (o := _) rfl (fun K hK => ?_) AllReadyH.nil
          go_simp
          refine (nth_any r cc p n c l kr _ hS.1.ints (by have := HN1.out; omega) HFF.out.2.2.2.2.2.2.2 HKB.out.1 (by have := HKB.out; omega)).mono ?_
          rintro e w82 ⟨v, rfl, ho, hb⟩
          obtain ⟨ph, ch, rfl, h6⟩ := ho.slice
          have hlen : (nthG l kr).length = n := by have h1 := (listed_iff.1 (nth_listed l HFF.out.2.2.2.2.2.2.2 kr)).1; have h2 := HNL.out; omega
          rw [hlen] at h6 ⊢
          rw [HHE.out] at h6
          have hxx := hxx.below hb
          clear ho hlen
          refine hK.out _ _ (⟨hS.1.step hb, hS.2.below hb⟩) (fun hS => ?_)
          clear hK K
          try simp only [List.setIfInBounds_toArray, List.set_cons_zero, List.set_cons_succ]
          refine wpAnyH_take (i := 11) (v := ?_) rfl (by kernel_rfl) (by kernel_rfl) (by kernel_rfl) (fun _ _ _ h => h) (Or.inl ⟨by rfl, fun V hV => ?_⟩) (by assumption) ?_
          rotate_left
          · go_simp
            try with_reducible rfl
          try simp only [Act.put, List.getElem_toArray, List.getElem_cons_zero, List.getElem_cons_succ, List.setIfInBounds_toArray, List.set_cons_zero, List.set_cons_succ]
          refine wpAnyH_done (by kernel_rfl) ?_ _
          have HS30 := hid hS.1; have HX30 := hid hxx; have HH30 := hid h6
          clear hS hxx h6 g0 g1 g2 g3 g4 hi0
          obtain ⟨w30, hw30⟩ : ∃ a, w82 = a := ⟨_, rfl⟩
          subst hw30
          have g0 := HS30.out.c0; have g1 := HS30.out.c1; have g2 := HS30.out.c2; have g3 := HS30.out.c3; have g4 := HS30.out.c4
          obtain ⟨w31, hw31⟩ : ∃ a, w82.alloc (.cells #[.int .i64 r, .int .i64 cc, .slice p n c, .int .i64 sm, .slice q m d] 27) = a := ⟨_, rfl⟩
          have HB31 : Hid (BoxIs w82.heap.size #[.int .i64 r, .int .i64 cc, .slice p n c, .int .i64 sm, .slice q m d] w31) := by rw [← hw31]; exact BoxIs.start _ _ _
          have HBE31 : Hid (Below w82.heap.size w82 w31) := by rw [← hw31]; exact (Below.refl _ _).alloc (Nat.le_refl _) _
          have HSZ31 : Hid (w31.heap.size = w82.heap.size + 1) := by rw [← hw31]; exact World.size_alloc _ _
          go_upto_region 20 with fail
          go_cut [] from 22 (fun wr => ∃ v, Below w82.heap.size w82 wr ∧ BoxIs w82.heap.size #[.int .i64 r, .int .i64 cc, .slice p n c, .int .i64 sm, v] wr ∧ OwnRef wr (w82.heap.size + 1) v cs)
          case first =>
            obtain ⟨w32, hw32⟩ : ∃ a, w31.alloc (.cells #[] 59) = a := ⟨_, rfl⟩
            have hb32 : Below w31.heap.size w31 w32 := by rw [← hw32]; exact (Below.refl _ _).alloc (Nat.le_refl _) _
            have HO32 : Hid (OwnRef w32 (w82.heap.size + 1) (.slice (some ⟨w31.heap.size, 0, none⟩) 0 0) []) := by rw [← hw32]; exact ownRef_nil _ (by have := HSZ31.out; omega)
            have HBE32 := hid (HBE31.out.trans (hb32.mono (by have := HSZ31.out; omega))); have HB32 := hid (HB31.out.below hb32); have HS32 := hid (HS30.out.step HBE32.out)
            have HSZ32 : Hid (w31.heap.size ≤ w32.heap.size) := hb32.size
            clear hb32 g0 g1 g2 g3 g4
            have g4 := HS32.out.c4
            cases q with
            | none =>
              have hm0 : m = 0 := by
                refine Classical.byContradiction fun h => ?_
                obtain ⟨z0, hz0⟩ : ∃ z, cs[0]? = some z := ⟨cs[0]'(by have := HCW.out.1; omega), List.getElem?_eq_getElem _⟩
                obtain ⟨b, off, h1, _⟩ := HCW.out.2 0 z0 hz0
                cases h1
              have hcs0 : cs = [] := List.length_eq_zero_iff.1 (by rw [← HCW.out.1, hm0])
              have HCS0 := hid hcs0
              subst hm0
              clear hcs0
              have k4 := (HB32.out.2 4 _ rfl).1; have f4 := (HB32.out.2 4 _ rfl).2
              go_wp2
              go_meet
              case rel => exact ⟨_, HBE32.out.setCell (p := ⟨w82.heap.size, 4, none⟩) (Nat.le_refl _) _, HB32.out.put (j := 4) _, by rw [HCS0.out]; exact HO32.out.setOther _⟩
            | some ad =>
              go_wp2_with (at_builtin; refine append_refs (by rfl) (.tmp 121) (.tmp 123) (by rfl) (w82.heap.size + 1) _ [] ad m d cs HO32.out (by rfl) (by rfl) HS32.out.cnts (by simp) (by have := HN.out; omega) (by have h8 := HSZ32.out; have h9 := HSZ31.out; omega) ?_; intro v4 w33 ho4 hb4; rw [List.nil_append] at ho4; obtain ⟨q9, d9, rfl, hq9⟩ := ho4.slice; have HB33 := hid (HB32.out.keep hb4 (by omega)); have HBE33 := hid (HBE32.out.trans (hb4.mono (by omega))); have HO33 := hid ho4; clear hb4 ho4 hq9; have k4 := (HB33.out.2 4 _ rfl).1; have f4 := (HB33.out.2 4 _ rfl).2)
              go_meet
              case rel => exact ⟨_, HBE33.out.setCell (p := ⟨w82.heap.size, 4, none⟩) (Nat.le_refl _) _, HB33.out.put (j := 4) _, HO33.out.setOther _⟩
          case rest =>
            obtain ⟨v, hB, hBX, hO⟩ := hcut
            have HB40 := hid hB; have HBX40 := hid hBX; have HO40 := hid hO
            clear hB hBX hO g0 g1 g2 g3 g4
            go_wp2_with fail
            go_loopw [18] (fun i wr => ∃ (k : Nat) (v : Value), k ≤ nx ∧ i = .int .i64 k ∧ Below w82.heap.size w82 wr ∧ BoxIs w82.heap.size #[.int .i64 r, .int .i64 cc, .slice p n c, .int .i64 sm, v] wr ∧ OwnRef wr (w82.heap.size + 1) v (cs ++ cntsX hh (X.take k))) (fun i _ => nx - (intOf i).toNat)
            case atStart => exact ⟨0, v, by omega, rfl, HB40.out, HBX40.out, by rw [List.take_zero]; unfold cntsX; rw [List.map_nil, List.append_nil]; exact HO40.out⟩
            case round =>
              clear HB40 HBX40 HO40
              obtain ⟨k, v, hk, rfl, hB, hBX, hO⟩ := hrel
              obtain ⟨L, hL⟩ : ∃ a, cs ++ cntsX hh (X.take k) = a := ⟨_, rfl⟩
              rw [hL] at hO
              have HLL := hid hL
              obtain ⟨q9, d9, rfl, hq9⟩ := hO.slice
              obtain ⟨ln, hln⟩ : ∃ a, L.length = a := ⟨_, rfl⟩
              rw [hln] at hq9 hO hBX
              have HLN := hid hln
              have HB41 := hid hB; have HBX41 := hid hBX; have HO41 := hid hO; have HQ9 := hid hq9
              clear hL hln hq9 hB hBX hO
              have HX41 := hid (HX30.out.below HB41.out); have HH41 := hid (HH30.out.below HB41.out)
              by_cases hlt : k < nx
              · skip
                have hxl : k < X.length := by have := HNX.out; omega
                have hXk : X[k]? = some X[k] := List.getElem?_eq_getElem hxl
                have hmem := incr_mem HXP.out.1 _ (List.getElem_mem hxl)
                obtain ⟨j, hj⟩ : ∃ j : Nat, X[k] = (j : Int) := ⟨X[k].toNat, by omega⟩
                rw [hj] at hXk hmem
                have hjm : j < n := by have := HNX.out; omega
                have HGX : Hid (X[k]?.getD 0 = (j : Int)) := by show _ = _; rw [hXk]; rfl
                have HXK := hid hXk
                obtain ⟨bx, ox, hpx, _, _⟩ := HX41.out.at hlt
                subst hpx
                obtain ⟨bh, oh, hph, _, _⟩ := HH41.out.at hjm
                subst hph
                obtain ⟨hv, hhv⟩ : ∃ a, hh[j]?.getD 0 = a := ⟨_, rfl⟩
                have HHV := hid hhv
                have HN9 : Hid (nx ≤ 9 ∧ m ≤ 9) := ⟨HNX9.out, HN.out.2⟩
                have hlb : ln ≤ 20 := by rw [← HLN.out, ← HLL.out, List.length_append, cntsX, List.length_map, List.length_take]; have := HCW.out.1; have := HN.out; have := HNX9.out; omega
                have HLB := hid hlb
                clear hxl hmem hj hXk hhv hlb
                go_wp2_with fail
                have HX30b : Hid (IntsAt w82 (some ⟨bx, ox, none⟩) nx X) := HX30.out; have HH30b : Hid (IntsAt w82 (some ⟨bh, oh, none⟩) n hh) := HH30.out
                refine wp_region_held_drew (S := fun V => Below w82.heap.size w82 V ∧ IntsAt V (some ⟨bx, ox, none⟩) nx X ∧ IntsAt V (some ⟨bh, oh, none⟩) n hh ∧ (∃ vq, BoxIs w82.heap.size #[.int .i64 r, .int .i64 cc, .slice p n c, .int .i64 sm, vq] V)) (by kernel_rfl) (⟨HB41.out.drew, HX41.out, HH41.out, _, HBX41.out⟩) (fun hS => ?_)
                simp only [List.size_toArray, List.length_cons, List.length_nil, Nat.reduceAdd, Array.replicate_succ, Array.replicate_zero, List.push_toArray, List.nil_append, List.cons_append]
                refine wpAnyH_take (i := 0) (v := ?_) rfl (by kernel_rfl) (by kernel_rfl) (by kernel_rfl) (fun _ _ _ h => h) (Or.inl ⟨by rfl, fun V hV => ?_⟩) (by assumption) ?_
                rotate_left
                · go_simp
                  try with_reducible rfl
                try simp only [Act.put, List.getElem_toArray, List.getElem_cons_zero, List.setIfInBounds_toArray, List.set_cons_zero, List.set_cons_succ]
                refine wpAnyH_take (i := 2) (v := ?_) rfl (by kernel_rfl) (by kernel_rfl) (by kernel_rfl) (fun _ _ _ h => h) (Or.inl ⟨by rfl, fun V hV => ?_⟩) (by assumption) ?_
                rotate_left
                · go_simp
                  try with_reducible rfl
                try simp only [Act.put, List.getElem_toArray, List.getElem_cons_zero, List.getElem_cons_succ, List.setIfInBounds_toArray, List.set_cons_zero, List.set_cons_succ]
                refine wpAnyH_take (i := 3) (v := ?_) rfl (by kernel_rfl) (by kernel_rfl) (by kernel_rfl) (fun _ _ _ h => h) (Or.inl ⟨by rfl, fun V hV => ?_⟩) (by assumption) ?_
                rotate_left
                · go_simp
                  try with_reducible rfl
                try simp only [Act.put, List.getElem_toArray, List.getElem_cons_zero, List.getElem_cons_succ, List.setIfInBounds_toArray, List.set_cons_zero, List.set_cons_succ]
                refine wpAnyH_take (i := 4) (v := ?_) rfl (by kernel_rfl) (by kernel_rfl) (by kernel_rfl) (fun _ _ _ h => h) (Or.inl ⟨by rfl, fun V hV => ?_⟩) (by assumption) ?_
                rotate_left
                · go_simp
                  try with_reducible rfl
                try simp only [Act.put, List.getElem_toArray, List.getElem_cons_zero, List.getElem_cons_succ, List.setIfInBounds_toArray, List.set_cons_zero, List.set_cons_succ]
                refine wpAnyH_take (i := 5) (v := ?_) rfl (by kernel_rfl) (by kernel_rfl) (by kernel_rfl) (fun _ _ _ h => h) (Or.inl ⟨by rfl, fun V hV => ?_⟩) (by assumption) ?_
                rotate_left
                · have hc := hV.2.1.get hlt; rw [HGX.out] at hc; go_simp
                  try with_reducible rfl
                try simp only [Act.put, List.getElem_toArray, List.getElem_cons_zero, List.getElem_cons_succ, List.setIfInBounds_toArray, List.set_cons_zero, List.set_cons_succ]
                refine wpAnyH_take (i := 6) (v := ?_) rfl (by kernel_rfl) (by kernel_rfl) (by kernel_rfl) (fun _ _ _ h => h) (Or.inl ⟨by rfl, fun V hV => ?_⟩) (by assumption) ?_
                rotate_left
                · go_simp
                  try with_reducible rfl
                try simp only [Act.put, List.getElem_toArray, List.getElem_cons_zero, List.getElem_cons_succ, List.setIfInBounds_toArray, List.set_cons_zero, List.set_cons_succ]
                refine wpAnyH_take (i := 7) (v := ?_) rfl (by kernel_rfl) (by kernel_rfl) (by kernel_rfl) (fun _ _ _ h => h) (Or.inl ⟨by rfl, fun V hV => ?_⟩) (by assumption) ?_
                rotate_left
                · go_simp
                  try with_reducible rfl
                try simp only [Act.put, List.getElem_toArray, List.getElem_cons_zero, List.getElem_cons_succ, List.setIfInBounds_toArray, List.set_cons_zero, List.set_cons_succ]
                refine wpAnyH_take (i := 8) (v := ?_) rfl (by kernel_rfl) (by kernel_rfl) (by kernel_rfl) (fun _ _ _ h => h) (Or.inl ⟨by rfl, fun V hV => ?_⟩) (by assumption) ?_
                rotate_left
                · go_simp
                  try with_reducible rfl
                try simp only [Act.put, List.getElem_toArray, List.getElem_cons_zero, List.getElem_cons_succ, List.setIfInBounds_toArray, List.set_cons_zero, List.set_cons_succ]
                refine wpAnyH_take (i := 9) (v := ?_) rfl (by kernel_rfl) (by kernel_rfl) (by kernel_rfl) (fun _ _ _ h => h) (Or.inl ⟨by rfl, fun V hV => ?_⟩) (by assumption) ?_
                rotate_left
                · go_simp
                  try with_reducible rfl
                try simp only [Act.put, List.getElem_toArray, List.getElem_cons_zero, List.getElem_cons_succ, List.setIfInBounds_toArray, List.set_cons_zero, List.set_cons_succ]
                refine wpAnyH_take (i := 10) (v := ?_) rfl (by kernel_rfl) (by kernel_rfl) (by kernel_rfl) (fun _ _ _ h => h) (Or.inl ⟨by rfl, fun V hV => ?_⟩) (by assumption) ?_
                rotate_left
                · have hc := hV.2.1.get hlt; rw [HGX.out] at hc; go_simp
                  try with_reducible rfl
                try simp only [Act.put, List.getElem_toArray, List.getElem_cons_zero, List.getElem_cons_succ, List.setIfInBounds_toArray, List.set_cons_zero, List.set_cons_succ]
                refine wpAnyH_take (i := 11) (v := ?_) rfl (by kernel_rfl) (by kernel_rfl) (by kernel_rfl) (fun _ _ _ h => h) (Or.inl ⟨by rfl, fun V hV => ?_⟩) (by assumption) ?_
                rotate_left
                · go_simp
                  try with_reducible rfl
                try simp only [Act.put, List.getElem_toArray, List.getElem_cons_zero, List.getElem_cons_succ, List.setIfInBounds_toArray, List.set_cons_zero, List.set_cons_succ]
                refine wpAnyH_take (i := 12) (v := ?_) rfl (by kernel_rfl) (by kernel_rfl) (by kernel_rfl) (fun _ _ _ h => h) (Or.inl ⟨by rfl, fun V hV => ?_⟩) (by assumption) ?_
                rotate_left
                · have hc := hV.2.2.1.get hjm; rw [HHV.out] at hc; go_simp
                  try with_reducible rfl
                try simp only [Act.put, List.getElem_toArray, List.getElem_cons_zero, List.getElem_cons_succ, List.setIfInBounds_toArray, List.set_cons_zero, List.set_cons_succ]
                refine wpAnyH_take (i := 13) (v := ?_) rfl (by kernel_rfl) (by kernel_rfl) (by kernel_rfl) (fun _ _ _ h => h) (Or.inl ⟨by rfl, fun V hV => ?_⟩) (by assumption) ?_
                rotate_left
                · go_simp
                  try with_reducible rfl
                try simp only [Act.put, List.getElem_toArray, List.getElem_cons_zero, List.getElem_cons_succ, List.setIfInBounds_toArray, List.set_cons_zero, List.set_cons_succ]
                refine wpAnyH_take (i := 14) (v := ?_) rfl (by kernel_rfl) (by kernel_rfl) (by kernel_rfl) (fun _ _ _ h => h) (Or.inl ⟨by rfl, fun V hV => ?_⟩) (by assumption) ?_
                rotate_left
                · go_simp
                  try with_reducible rfl
                try simp only [Act.put, List.getElem_toArray, List.getElem_cons_zero, List.getElem_cons_succ, List.setIfInBounds_toArray, List.set_cons_zero, List.set_cons_succ]
                refine wpAnyH_take (i := 15) (v := ?_) rfl (by kernel_rfl) (by kernel_rfl) (by kernel_rfl) (fun _ _ _ h => h) (Or.inl ⟨by rfl, fun V hV => ?_⟩) (by assumption) ?_
                rotate_left
                · go_simp
                  try with_reducible rfl
                try simp only [Act.put, List.getElem_toArray, List.getElem_cons_zero, List.getElem_cons_succ, List.setIfInBounds_toArray, List.set_cons_zero, List.set_cons_succ]
                refine wpAnyH_take (i := 16) (v := ?_) rfl (by kernel_rfl) (by kernel_rfl) (by kernel_rfl) (fun _ _ _ h => h) (Or.inl ⟨by rfl, fun V hV => ?_⟩) (by assumption) ?_
                rotate_left
                · go_simp
                  try with_reducible rfl
                try simp only [Act.put, List.getElem_toArray, List.getElem_cons_zero, List.getElem_cons_succ, List.setIfInBounds_toArray, List.set_cons_zero, List.set_cons_succ]
                refine wpAnyH_take (i := 17) (v := ?_) rfl (by kernel_rfl) (by kernel_rfl) (by kernel_rfl) (fun _ _ _ h => h) (Or.inl ⟨by rfl, fun V hV => ?_⟩) (by assumption) ?_
                rotate_left
                · have hc := hV.2.1.get hlt; rw [HGX.out] at hc; go_simp
                  try with_reducible rfl
                try simp only [Act.put, List.getElem_toArray, List.getElem_cons_zero, List.getElem_cons_succ, List.setIfInBounds_toArray, List.set_cons_zero, List.set_cons_succ]
                refine wpAnyH_take (i := 18) (v := ?_) rfl (by kernel_rfl) (by kernel_rfl) (by kernel_rfl) (fun _ _ _ h => h) (Or.inl ⟨by rfl, fun V hV => ?_⟩) (by assumption) ?_
                rotate_left
                · go_simp
                  try with_reducible rfl
                try simp only [Act.put, List.getElem_toArray, List.getElem_cons_zero, List.getElem_cons_succ, List.setIfInBounds_toArray, List.set_cons_zero, List.set_cons_succ]
                refine wpAnyH_take (i := 19) (v := ?_) rfl (by kernel_rfl) (by kernel_rfl) (by kernel_rfl) (fun _ _ _ h => h) (Or.inl ⟨by rfl, fun V hV => ?_⟩) (by assumption) ?_
                rotate_left
                · have hc := hV.2.2.1.get hjm; rw [HHV.out] at hc; go_simp
                  try with_reducible rfl
                try simp only [Act.put, List.getElem_toArray, List.getElem_cons_zero, List.getElem_cons_succ, List.setIfInBounds_toArray, List.set_cons_zero, List.set_cons_succ]
                refine wpAnyH_take (i := 20) (v := ?_) rfl (by kernel_rfl) (by kernel_rfl) (by kernel_rfl) (fun _ _ _ h => h) (Or.inl ⟨by rfl, fun V hV => ?_⟩) (by assumption) ?_
                rotate_left
                · go_simp
                  try with_reducible rfl
                try simp only [Act.put, List.getElem_toArray, List.getElem_cons_zero, List.getElem_cons_succ, List.setIfInBounds_toArray, List.set_cons_zero, List.set_cons_succ]
                refine wpAnyH_take (i := 21) (v := ?_) rfl (by kernel_rfl) (by kernel_rfl) (by kernel_rfl) (fun _ _ _ h => h) (Or.inl ⟨by rfl, fun V hV => ?_⟩) (by assumption) ?_
                rotate_left
                · go_simp
                  try with_reducible rfl
                try simp only [Act.put, List.getElem_toArray, List.getElem_cons_zero, List.getElem_cons_succ, List.setIfInBounds_toArray, List.set_cons_zero, List.set_cons_succ]
                refine wpAnyH_ready (rs := [1, 22]) (by kernel_rfl) (by simp) ?_
                refine AllReadyH.cons (o := _) rfl (fun K hK => ?_) ?_
                · skip
                  have k4 := (HBX41.out.2 4 _ rfl).1
                  go_simp
                  clear k4
                  refine hK.out _ _ (hS) (fun hS => ?_)
                  clear hK K
                  try simp only [List.setIfInBounds_toArray, List.set_cons_zero, List.set_cons_succ]
                  refine wpAnyH_ready (rs := [22]) (by kernel_rfl) (by simp) ?_
                  refine AllReadyH.cons (o := _) rfl (fun K hK => ?_) AllReadyH.nil
                  obtain ⟨V22, hV22⟩ : ∃ V, (wr.drew).alloc (.cells #[.int .i64 (j : Int), .int .i64 hv, .int .i64 hv, .bool false] 59) = V := ⟨_, rfl⟩
                  have hb : Below (wr.drew).heap.size wr.drew V22 := by rw [← hV22]; exact (Below.refl _ _).alloc (Nat.le_refl _) _
                  have h1 : CntsAt V22 (some ⟨wr.heap.size, 0, none⟩) 1 [⟨(j : Int), hv, hv, false⟩] := by obtain ⟨p7, c7, e7, h7⟩ := (ownRef_one wr.drew ⟨(j : Int), hv, hv, false⟩).slice; cases e7; rw [← hV22]; exact h7
                  have ho : OwnRef V22 (w82.heap.size + 1) (.slice q9 ln d9) L := (show OwnRef wr.drew _ _ _ from HO41.out).below hb
                  have hB := HB41.out.drew.trans (hb.mono HB41.out.size)
                  have hbx := (show BoxIs w82.heap.size _ wr.drew from HBX41.out).below hb
                  have hg1 : Hid (w82.heap.size + 1 ≤ V22.heap.size) := by have h8 := hbx.1; exact h8
                  clear hb
                  go_simp
                  refine hK.out _ _ (⟨hB, HX30b.out.below hB, HH30b.out.below hB, _, hbx⟩) (fun hS => ?_)
                  clear hK K
                  try simp only [List.setIfInBounds_toArray, List.set_cons_zero, List.set_cons_succ]
                  refine wpAnyH_ready (rs := [23]) (by kernel_rfl) (by simp) ?_
                  refine AllReadyH.cons (o := _) rfl (fun K hK => ?_) AllReadyH.nil
                  refine step_append_ref (by rfl) (.tmp 133) (.tmp 154) (by rfl) (w82.heap.size + 1) _ L _ 1 1 [⟨(j : Int), hv, hv, false⟩] ho (by rfl) (by rfl) h1 (by have h7 := HLB.out; have h8 := HLN.out; omega) (by omega) hg1.out ?_
                  intro v6 V6 ho6 hb _
                  have hB := hB.trans (hb.mono (by omega))
                  have hbx := hbx.keep hb (by omega)
                  obtain ⟨q8, d8, rfl, hq8⟩ := ho6.slice
                  obtain ⟨l8, hl8⟩ : ∃ a, (L ++ [⟨(j : Int), hv, hv, false⟩] : List Cnt).length = a := ⟨_, rfl⟩
                  rw [hl8] at hq8 ho6 ⊢
                  clear hl8 hb ho h1 hq8
                  refine hK.out _ _ (⟨hB, HX30b.out.below hB, HH30b.out.below hB, _, hbx⟩) (fun hS => ?_)
                  clear hK K
                  try simp only [Act.put, List.getElem_toArray, List.getElem_cons_zero, List.getElem_cons_succ, List.setIfInBounds_toArray, List.set_cons_zero, List.set_cons_succ]
                  refine wpAnyH_take (i := 24) (v := ?_) rfl (by kernel_rfl) (by kernel_rfl) (by kernel_rfl) (fun _ _ _ h => h) (Or.inl ⟨by rfl, fun V hV => ?_⟩) (by assumption) ?_
                  rotate_left
                  · go_simp
                    try with_reducible rfl
                  try simp only [Act.put, List.getElem_toArray, List.getElem_cons_zero, List.getElem_cons_succ, List.setIfInBounds_toArray, List.set_cons_zero, List.set_cons_succ]
                  refine wpAnyH_ready (rs := [25]) (by kernel_rfl) (by simp) ?_
                  refine AllReadyH.cons (o := _) rfl (fun K hK => ?_) AllReadyH.nil
                  have k4 := (hbx.2 4 _ rfl).1; have f4 := (hbx.2 4 _ rfl).2
                  go_simp
                  have hfb := hid (hB.setCell (p := ⟨w82.heap.size, 4, none⟩) (Nat.le_refl _) (.slice q8 l8 d8)); have hfx := hid (hbx.put (j := 4) (.slice q8 l8 d8)); have hfo := hid (ho6.setOther (k := 4) (.slice q8 l8 d8))
                  clear hbx ho6 hB
                  refine hK.out _ _ (⟨hfb.out, HX30b.out.below hfb.out, HH30b.out.below hfb.out, _, hfx.out⟩) (fun hS => ?_)
                  clear hK K
                  try simp only [List.setIfInBounds_toArray, List.set_cons_zero, List.set_cons_succ]
                  refine wpAnyH_done (by kernel_rfl) ?_ _
                  clear hS
                  have hn9 : nx ≤ 9 := HNX9.out
                  go_wp2
                  go_roundw
                  case rel => exact ⟨k + 1, _, by omega, by go_num, hfb.out, hfx.out, by rw [cntsX_snoc HXK.out, ← List.append_assoc, HLL.out, HHV.out]; exact hfo.out⟩
                  case measure => simp [intOf]; omega
                refine AllReadyH.cons (o := _) rfl (fun K hK => ?_) AllReadyH.nil
                obtain ⟨V22, hV22⟩ : ∃ V, (wr.drew).alloc (.cells #[.int .i64 (j : Int), .int .i64 hv, .int .i64 hv, .bool false] 59) = V := ⟨_, rfl⟩
                have hb : Below (wr.drew).heap.size wr.drew V22 := by rw [← hV22]; exact (Below.refl _ _).alloc (Nat.le_refl _) _
                have h1 : CntsAt V22 (some ⟨wr.heap.size, 0, none⟩) 1 [⟨(j : Int), hv, hv, false⟩] := by obtain ⟨p7, c7, e7, h7⟩ := (ownRef_one wr.drew ⟨(j : Int), hv, hv, false⟩).slice; cases e7; rw [← hV22]; exact h7
                have ho : OwnRef V22 (w82.heap.size + 1) (.slice q9 ln d9) L := (show OwnRef wr.drew _ _ _ from HO41.out).below hb
                have hB := HB41.out.drew.trans (hb.mono HB41.out.size)
                have hbx := (show BoxIs w82.heap.size _ wr.drew from HBX41.out).below hb
                have hg1 : Hid (w82.heap.size + 1 ≤ V22.heap.size) := by have h8 := hbx.1; exact h8
                clear hb
                go_simp
                refine hK.out _ _ (⟨hB, HX30b.out.below hB, HH30b.out.below hB, _, hbx⟩) (fun hS => ?_)
                clear hK K
                try simp only [List.setIfInBounds_toArray, List.set_cons_zero, List.set_cons_succ]
                refine wpAnyH_ready (rs := [1]) (by kernel_rfl) (by simp) ?_
                refine AllReadyH.cons (o := _) rfl (fun K hK => ?_) AllReadyH.nil
                have k4 := (hbx.2 4 _ rfl).1
                go_simp
                clear k4
                refine hK.out _ _ (hS) (fun hS => ?_)
                clear hK K
                try simp only [List.setIfInBounds_toArray, List.set_cons_zero, List.set_cons_succ]
                refine wpAnyH_ready (rs := [23]) (by kernel_rfl) (by simp) ?_
                refine AllReadyH.cons (o := _) rfl (fun K hK => ?_) AllReadyH.nil
                refine step_append_ref (by rfl) (.tmp 133) (.tmp 154) (by rfl) (w82.heap.size + 1) _ L _ 1 1 [⟨(j : Int), hv, hv, false⟩] ho (by rfl) (by rfl) h1 (by have h7 := HLB.out; have h8 := HLN.out; omega) (by omega) hg1.out ?_
                intro v6 V6 ho6 hb _
                have hB := hB.trans (hb.mono (by omega))
                have hbx := hbx.keep hb (by omega)
                obtain ⟨q8, d8, rfl, hq8⟩ := ho6.slice
                obtain ⟨l8, hl8⟩ : ∃ a, (L ++ [⟨(j : Int), hv, hv, false⟩] : List Cnt).length = a := ⟨_, rfl⟩
                rw [hl8] at hq8 ho6 ⊢
                clear hl8 hb ho h1 hq8
                refine hK.out _ _ (⟨hB, HX30b.out.below hB, HH30b.out.below hB, _, hbx⟩) (fun hS => ?_)
                clear hK K
                try simp only [Act.put, List.getElem_toArray, List.getElem_cons_zero, List.getElem_cons_succ, List.setIfInBounds_toArray, List.set_cons_zero, List.set_cons_succ]
                refine wpAnyH_take (i := 24) (v := ?_) rfl (by kernel_rfl) (by kernel_rfl) (by kernel_rfl) (fun _ _ _ h => h) (Or.inl ⟨by rfl, fun V hV => ?_⟩) (by assumption) ?_
                rotate_left
                · go_simp
                  try with_reducible rfl
                try simp only [Act.put, List.getElem_toArray, List.getElem_cons_zero, List.getElem_cons_succ, List.setIfInBounds_toArray, List.set_cons_zero, List.set_cons_succ]
                refine wpAnyH_ready (rs := [25]) (by kernel_rfl) (by simp) ?_
                refine AllReadyH.cons (o := _) rfl (fun K hK => ?_) AllReadyH.nil
                have k4 := (hbx.2 4 _ rfl).1; have f4 := (hbx.2 4 _ rfl).2
                go_simp
                have hfb := hid (hB.setCell (p := ⟨w82.heap.size, 4, none⟩) (Nat.le_refl _) (.slice q8 l8 d8)); have hfx := hid (hbx.put (j := 4) (.slice q8 l8 d8)); have hfo := hid (ho6.setOther (k := 4) (.slice q8 l8 d8))
                clear hbx ho6 hB
                refine hK.out _ _ (⟨hfb.out, HX30b.out.below hfb.out, HH30b.out.below hfb.out, _, hfx.out⟩) (fun hS => ?_)
                clear hK K
                try simp only [List.setIfInBounds_toArray, List.set_cons_zero, List.set_cons_succ]
                refine wpAnyH_done (by kernel_rfl) ?_ _
                clear hS
                have hn9 : nx ≤ 9 := HNX9.out
                go_wp2
                go_roundw
                case rel => exact ⟨k + 1, _, by omega, by go_num, hfb.out, hfx.out, by rw [cntsX_snoc HXK.out, ← List.append_assoc, HLL.out, HHV.out]; exact hfo.out⟩
                case measure => simp [intOf]; omega
              · skip
                obtain rfl : nx = k := by omega
                have hL2 : L = cs ++ cntsX hh X := by rw [← HLL.out, HNX.out.1, List.take_length]
                subst hL2
                obtain ⟨w50, hw50⟩ : ∃ a, wr = a := ⟨_, rfl⟩
                rw [hw50] at HB41 HBX41 HO41 HQ9 HX41 HH41 ⊢
                clear hw50
                have HS50 := hid (HS30.out.step HB41.out)
                have HZ50 := hid (HBX41.out.sbox HS50.out.ints HQ9.out : SBox w82.heap.size r cc p n c l sm q9 ln d9 (cs ++ cntsX hh X) w50)
                have HH50 := HH41
                have g0 := HS50.out.c0; have g1 := HS50.out.c1; have g2 := HS50.out.c2; have g3 := HS50.out.c3; have g4 := HS50.out.c4
                have z0 := HZ50.out.c0; have z1 := HZ50.out.c1; have z2 := HZ50.out.c2; have z3 := HZ50.out.c3; have z4 := HZ50.out.c4
                obtain ⟨cb2, hcb2⟩ : ∃ a, (thinB n ln && decide (faultL r cc l sm (cs ++ cntsX hh X) = 0)) = a := ⟨_, rfl⟩
                have HCB2 := hid hcb2
                go_wp2_with fail
                refine (ready_any r cc p n c l sm q9 ln d9 (cs ++ cntsX hh X) _ HZ50.out.ints HZ50.out.cnts).mono ?_
                rintro e w51 ⟨rfl, hb⟩
                have HS51 := hid (HS50.out.step hb)
                have HZ51 := hid (HZ50.out.below hb)
                have HH51 := hid (HH50.out.below hb)
                rw [hcb2]
                clear hcb2
                clear hb z0 z1 z2 z3 z4 g0 g1 g2 g3 g4
                have g0 := HS51.out.c0; have g1 := HS51.out.c1; have g2 := HS51.out.c2; have g3 := HS51.out.c3; have g4 := HS51.out.c4
                have z0 := HZ51.out.c0; have z1 := HZ51.out.c1; have z2 := HZ51.out.c2; have z3 := HZ51.out.c3; have z4 := HZ51.out.c4
                cases cb2 with
                | true =>
                  have hf2 : faultL r cc l sm (cs ++ cntsX hh X) = 0 ∧ ln ≤ 9 := by have h := HCB2.out; simp only [Bool.and_eq_true, thinB, decide_eq_true_eq] at h; exact ⟨h.2, h.1.2⟩
                  have HF2 := hid hf2
                  clear hf2
                  have HVD := hid (decided_verdict HF.out HF2.out.1 HXP.out.2.1 HHM.out HNB.out.1 HNB.out.2)
                  obtain ⟨shv, hshv⟩ : ∃ a, shareL l hh = a := ⟨_, rfl⟩
                  rw [hshv] at HVD
                  have HSHV := hid hshv
                  clear hshv
                  by_cases hc : n0 ≤ shv
                  · skip
                    have HV1 := HVD.out
                    rw [if_pos hc] at HV1
                    have HVV := hid HV1; have HHC := hid hc
                    clear HV1 hc
                    go_wp2_with fail
                    refine (surveyX_any r cc p n c l sm q9 ln d9 (cs ++ cntsX hh X) _ HZ51.out.ints HZ51.out.cnts (by have := HN.out; omega) (by have := HF2.out; omega)).mono ?_
                    rintro e w52 ⟨p8, n8, c8, q8, m8, d8, rfl, hi3, hc3, hb⟩
                    have HS52 := hid (HS51.out.step hb)
                    have HZ52 := hid (HZ51.out.below hb)
                    have HH52 := hid (HH51.out.below hb)
                    have HI52 := hid hi3; have HC52 := hid hc3; clear hi3 hc3
                    have HL8 : Hid (n8 ≤ 12 ∧ m8 ≤ 9) := ⟨by have := HI52.out.1; have := HS52.out.ints.1; have := HN.out; omega, by have := HC52.out.1; have := HZ52.out.cnts.1; have := HF2.out; omega⟩
                    clear hb z0 z1 z2 z3 z4 g0 g1 g2 g3 g4
                    have g0 := HS52.out.c0; have g1 := HS52.out.c1; have g2 := HS52.out.c2; have g3 := HS52.out.c3; have g4 := HS52.out.c4
                    have z0 := HZ52.out.c0; have z1 := HZ52.out.c1; have z2 := HZ52.out.c2; have z3 := HZ52.out.c3; have z4 := HZ52.out.c4
                    go_wp2_with fail
                    refine (Above_any r cc p8 n8 c8 l sm q8 m8 d8 (cs ++ cntsX hh X) n0 _ HI52.out HC52.out (by have := HL8.out; omega) (by have := HL8.out; omega)).mono ?_
                    rintro e w53 ⟨rfl, hb⟩
                    have HS53 := hid (HS52.out.step hb)
                    have HZ53 := hid (HZ52.out.below hb)
                    have HH53 := hid (HH52.out.below hb)
                    rw [HVV.out]
                    clear hb z0 z1 z2 z3 z4 g0 g1 g2 g3 g4
                    have g0 := HS53.out.c0; have g1 := HS53.out.c1; have g2 := HS53.out.c2; have g3 := HS53.out.c3; have g4 := HS53.out.c4
                    have z0 := HZ53.out.c0; have z1 := HZ53.out.c1; have z2 := HZ53.out.c2; have z3 := HZ53.out.c3; have z4 := HZ53.out.c4
                    go_wp2_with fail
                    refine (share_any r cc p n c l ph ch hh _ HS53.out.ints HH53.out (by have := HN1.out; omega) HFF.out.2.2.2.2.2.2.2 (listed_bd (genP_listed HHM.out) HFF.out.2.2.2.2.2.2.2).2).mono ?_
                    rintro e w54 ⟨rfl, hb⟩
                    have HS54 := hid (HS53.out.step hb)
                    have HZ54 := hid (HZ53.out.below hb)
                    have HH54 := hid (HH53.out.below hb)
                    rw [HSHV.out]
                    clear hb z0 z1 z2 z3 z4 g0 g1 g2 g3 g4
                    have g0 := HS54.out.c0; have g1 := HS54.out.c1; have g2 := HS54.out.c2; have g3 := HS54.out.c3; have g4 := HS54.out.c4
                    have z0 := HZ54.out.c0; have z1 := HZ54.out.c1; have z2 := HZ54.out.c2; have z3 := HZ54.out.c3; have z4 := HZ54.out.c4
                    have hc : n0 ≤ shv := by have h9 := HHC.out; omega
                    have hcb : decide (n0 ≤ shv) = true := by simpa using hc
                    have hcc : decide (shv ≥ n0) = true := by simpa using hc
                    go_wp2_with fail
                    refine (awake_any _).mono ?_
                    rintro e w99 ⟨rfl, hb⟩
                    go_wp2_with fail
                    go_ret
                    exact ⟨rfl, HS54.out.below.trans (hb.mono HS54.out.below.size)⟩
                  · skip
                    have HV1 := HVD.out
                    rw [if_neg hc] at HV1
                    have HVV := hid HV1; have HHC := hid hc
                    clear HV1 hc
                    go_wp2_with fail
                    refine (surveyX_any r cc p n c l sm q9 ln d9 (cs ++ cntsX hh X) _ HZ51.out.ints HZ51.out.cnts (by have := HN.out; omega) (by have := HF2.out; omega)).mono ?_
                    rintro e w52 ⟨p8, n8, c8, q8, m8, d8, rfl, hi3, hc3, hb⟩
                    have HS52 := hid (HS51.out.step hb)
                    have HZ52 := hid (HZ51.out.below hb)
                    have HH52 := hid (HH51.out.below hb)
                    have HI52 := hid hi3; have HC52 := hid hc3; clear hi3 hc3
                    have HL8 : Hid (n8 ≤ 12 ∧ m8 ≤ 9) := ⟨by have := HI52.out.1; have := HS52.out.ints.1; have := HN.out; omega, by have := HC52.out.1; have := HZ52.out.cnts.1; have := HF2.out; omega⟩
                    clear hb z0 z1 z2 z3 z4 g0 g1 g2 g3 g4
                    have g0 := HS52.out.c0; have g1 := HS52.out.c1; have g2 := HS52.out.c2; have g3 := HS52.out.c3; have g4 := HS52.out.c4
                    have z0 := HZ52.out.c0; have z1 := HZ52.out.c1; have z2 := HZ52.out.c2; have z3 := HZ52.out.c3; have z4 := HZ52.out.c4
                    go_wp2_with fail
                    refine (Above_any r cc p8 n8 c8 l sm q8 m8 d8 (cs ++ cntsX hh X) n0 _ HI52.out HC52.out (by have := HL8.out; omega) (by have := HL8.out; omega)).mono ?_
                    rintro e w53 ⟨rfl, hb⟩
                    have HS53 := hid (HS52.out.step hb)
                    have HZ53 := hid (HZ52.out.below hb)
                    have HH53 := hid (HH52.out.below hb)
                    rw [HVV.out]
                    clear hb z0 z1 z2 z3 z4 g0 g1 g2 g3 g4
                    have g0 := HS53.out.c0; have g1 := HS53.out.c1; have g2 := HS53.out.c2; have g3 := HS53.out.c3; have g4 := HS53.out.c4
                    have z0 := HZ53.out.c0; have z1 := HZ53.out.c1; have z2 := HZ53.out.c2; have z3 := HZ53.out.c3; have z4 := HZ53.out.c4
                    go_wp2_with fail
                    refine (share_any r cc p n c l ph ch hh _ HS53.out.ints HH53.out (by have := HN1.out; omega) HFF.out.2.2.2.2.2.2.2 (listed_bd (genP_listed HHM.out) HFF.out.2.2.2.2.2.2.2).2).mono ?_
                    rintro e w54 ⟨rfl, hb⟩
                    have HS54 := hid (HS53.out.step hb)
                    have HZ54 := hid (HZ53.out.below hb)
                    have HH54 := hid (HH53.out.below hb)
                    rw [HSHV.out]
                    clear hb z0 z1 z2 z3 z4 g0 g1 g2 g3 g4
                    have g0 := HS54.out.c0; have g1 := HS54.out.c1; have g2 := HS54.out.c2; have g3 := HS54.out.c3; have g4 := HS54.out.c4
                    have z0 := HZ54.out.c0; have z1 := HZ54.out.c1; have z2 := HZ54.out.c2; have z3 := HZ54.out.c3; have z4 := HZ54.out.c4
                    have hc : ¬ n0 ≤ shv := by have h9 := HHC.out; omega
                    have hcd : shv < n0 := by omega
                    have hcb : decide (n0 ≤ shv) = false := by simpa using hc
                    have hcc : decide (shv ≥ n0) = false := by simpa using hc
                    go_wp2_with fail
                    refine (awake_any _).mono ?_
                    rintro e w99 ⟨rfl, hb⟩
                    go_wp2_with fail
                    go_ret
                    exact ⟨rfl, HS54.out.below.trans (hb.mono HS54.out.below.size)⟩
                | false =>
                  go_wp2_with fail
                  refine (awake_any _).mono ?_
                  rintro e w99 ⟨rfl, hb⟩
                  go_wp2_with fail
                  go_ret
                  exact ⟨rfl, HS51.out.below.trans (hb.mono HS51.out.below.size)⟩
        | false =>
          have hnt1 : 1 ≤ nt := by
            have h1 := HNT.out
            have h2 : T ≠ [] := fun e => HG.out (HOK.out.nil.2 e)
            cases T with
            | nil => exact absurd rfl h2
            | cons _ _ => simp at h1; omega
          obtain ⟨ii, hii⟩ : ∃ a : Int, x % (nt : Int) = a := ⟨_, rfl⟩
          have hib : 0 ≤ ii ∧ ii < nt := by rw [← hii]; exact ⟨Int.emod_nonneg _ (by omega), Int.emod_lt_of_pos _ (by omega)⟩
          obtain ⟨i0, rfl⟩ : ∃ a : Nat, ii = (a : Int) := ⟨ii.toNat, by omega⟩
          have hi0 : i0 < nt := by omega
          have hil : i0 < T.length := by have := HNT.out; omega
          obtain ⟨kr, hkr⟩ : ∃ a, T[i0]?.getD 0 = a := ⟨_, rfl⟩
          have hkm : kr ∈ T := by rw [← hkr]; exact getD_mem hil
          have HKB := hid (HOK.out.num kr hkm)
          have HKR := hid hkr
          have hhm : nthG l kr ∈ genP (okP cs [] cc sm) l 0 [] := (HOK.out.mem _).2 ⟨kr, hkm, rfl⟩
          obtain ⟨hh, hhe⟩ : ∃ a, nthG l kr = a := ⟨_, rfl⟩
          rw [hhe] at hhm
          have HHM := hid hhm; have HHE := hid hhe; have HI0 := hid hi0; have HII := hid hii; have HNT1 := hid hnt1
          obtain ⟨bt, ot, hpt, _, _⟩ := HT9.out.at hi0
          subst hpt
          clear hnt1 hii hib hil hkr hkm hhm hhe
          go_wp2_with fail
          have hxx : IntsAt w91.drew px nx X := HX9.out
          refine wp_region_held_drew (S := fun V => SAt w r cc p n c l sm q m d cs V ∧ IntsAt V (some ⟨bt, ot, none⟩) nt T) (by kernel_rfl) (⟨HS9.out.drewN 1, HT9.out⟩) (fun hS => ?_)
          simp only [List.size_toArray, List.length_cons, List.length_nil, Nat.reduceAdd, Array.replicate_succ, Array.replicate_zero, List.push_toArray, List.nil_append, List.cons_append]
          refine wpAnyH_take (i := 0) (v := ?_) rfl (by kernel_rfl) (by kernel_rfl) (by kernel_rfl) (fun _ _ _ h => h) (Or.inl ⟨by rfl, fun V hV => ?_⟩) (by assumption) ?_
          rotate_left
          · go_simp
            try with_reducible rfl
          try simp only [Act.put, List.getElem_toArray, List.getElem_cons_zero, List.setIfInBounds_toArray, List.set_cons_zero, List.set_cons_succ]
          refine wpAnyH_take (i := 1) (v := ?_) rfl (by kernel_rfl) (by kernel_rfl) (by kernel_rfl) (fun _ _ _ h => h) (Or.inl ⟨by rfl, fun V hV => ?_⟩) (by assumption) ?_
          rotate_left
          · have g0 := hV.1.c0; have g1 := hV.1.c1; have g2 := hV.1.c2; go_simp
            try with_reducible rfl
          try simp only [Act.put, List.getElem_toArray, List.getElem_cons_zero, List.getElem_cons_succ, List.setIfInBounds_toArray, List.set_cons_zero, List.set_cons_succ]
          refine wpAnyH_take (i := 2) (v := ?_) rfl (by kernel_rfl) (by kernel_rfl) (by kernel_rfl) (fun _ _ _ h => h) (Or.inl ⟨by rfl, fun V hV => ?_⟩) (by assumption) ?_
          rotate_left
          · go_simp
            try with_reducible rfl
          try simp only [Act.put, List.getElem_toArray, List.getElem_cons_zero, List.getElem_cons_succ, List.setIfInBounds_toArray, List.set_cons_zero, List.set_cons_succ]
          refine wpAnyH_take (i := 3) (v := ?_) rfl (by kernel_rfl) (by kernel_rfl) (by kernel_rfl) (fun _ _ _ h => h) (Or.inl ⟨by rfl, fun V hV => ?_⟩) (by assumption) ?_
          rotate_left
          · go_simp
            try with_reducible rfl
          try simp only [Act.put, List.getElem_toArray, List.getElem_cons_zero, List.getElem_cons_succ, List.setIfInBounds_toArray, List.set_cons_zero, List.set_cons_succ]
          refine wpAnyH_take (i := 4) (v := ?_) rfl (by kernel_rfl) (by kernel_rfl) (by kernel_rfl) (fun _ _ _ h => h) (Or.inl ⟨by rfl, fun V hV => ?_⟩) (by assumption) ?_
          rotate_left
          · have e1 : IntKind.i64.wrap x = x := IntWalk.i64_in _ (by have := HXX.out; omega); go_simp
            try with_reducible rfl
          try simp only [Act.put, List.getElem_toArray, List.getElem_cons_zero, List.getElem_cons_succ, List.setIfInBounds_toArray, List.set_cons_zero, List.set_cons_succ]
          refine wpAnyH_take (i := 5) (v := ?_) rfl (by kernel_rfl) (by kernel_rfl) (by kernel_rfl) (fun _ _ _ h => h) (Or.inl ⟨by rfl, fun V hV => ?_⟩) (by assumption) ?_
          rotate_left
          · go_simp
            try with_reducible rfl
          try simp only [Act.put, List.getElem_toArray, List.getElem_cons_zero, List.getElem_cons_succ, List.setIfInBounds_toArray, List.set_cons_zero, List.set_cons_succ]
          refine wpAnyH_take (i := 6) (v := ?_) rfl (by kernel_rfl) (by kernel_rfl) (by kernel_rfl) (fun _ _ _ h => h) (Or.inl ⟨by rfl, fun V hV => ?_⟩) (by assumption) ?_
          rotate_left
          · go_simp
            try with_reducible rfl
          try simp only [Act.put, List.getElem_toArray, List.getElem_cons_zero, List.getElem_cons_succ, List.setIfInBounds_toArray, List.set_cons_zero, List.set_cons_succ]
          refine wpAnyH_take (i := 7) (v := ?_) rfl (by kernel_rfl) (by kernel_rfl) (by kernel_rfl) (fun _ _ _ h => h) (Or.inl ⟨by rfl, fun V hV => ?_⟩) (by assumption) ?_
          rotate_left
          · have e2b : ¬ nt = 0 := (by have := HNT1.out; omega); have e2 : ¬ (nt : Int) = 0 := (by have := HNT1.out; omega); have e3 : x.tmod (nt : Int) = (i0 : Int) := (by rw [Int.tmod_eq_emod_of_nonneg HXX.out.1]; exact HII.out); have e4 : IntKind.i64.wrap (i0 : Int) = (i0 : Int) := IntWalk.i64_in _ (by have := HI0.out; have := HNT4.out; omega); go_simp
            try with_reducible rfl
          try simp only [Act.put, List.getElem_toArray, List.getElem_cons_zero, List.getElem_cons_succ, List.setIfInBounds_toArray, List.set_cons_zero, List.set_cons_succ]
          refine wpAnyH_take (i := 8) (v := ?_) rfl (by kernel_rfl) (by kernel_rfl) (by kernel_rfl) (fun _ _ _ h => h) (Or.inl ⟨by rfl, fun V hV => ?_⟩) (by assumption) ?_
          rotate_left
          · go_simp
            try with_reducible rfl
          try simp only [Act.put, List.getElem_toArray, List.getElem_cons_zero, List.getElem_cons_succ, List.setIfInBounds_toArray, List.set_cons_zero, List.set_cons_succ]
          refine wpAnyH_take (i := 9) (v := ?_) rfl (by kernel_rfl) (by kernel_rfl) (by kernel_rfl) (fun _ _ _ h => h) (Or.inl ⟨by rfl, fun V hV => ?_⟩) (by assumption) ?_
          rotate_left
          · have hc := hV.2.get hi0; rw [HKR.out] at hc; go_simp
            try with_reducible rfl
          try simp only [Act.put, List.getElem_toArray, List.getElem_cons_zero, List.getElem_cons_succ, List.setIfInBounds_toArray, List.set_cons_zero, List.set_cons_succ]
          refine wpAnyH_ready (rs := [10]) (by kernel_rfl) (by simp) ?_
          refine AllReadyH.cons (o := _) rfl (fun K hK => ?_) AllReadyH.nil
          go_simp
          refine (nth_any r cc p n c l kr _ hS.1.ints (by have := HN1.out; omega) HFF.out.2.2.2.2.2.2.2 HKB.out.1 (by have := HKB.out; omega)).mono ?_
          rintro e w82 ⟨v, rfl, ho, hb⟩
          obtain ⟨ph, ch, rfl, h6⟩ := ho.slice
          have hlen : (nthG l kr).length = n := by have h1 := (listed_iff.1 (nth_listed l HFF.out.2.2.2.2.2.2.2 kr)).1; have h2 := HNL.out; omega
          rw [hlen] at h6 ⊢
          rw [HHE.out] at h6
          have hxx := hxx.below hb
          clear ho hlen
          refine hK.out _ _ (⟨hS.1.step hb, hS.2.below hb⟩) (fun hS => ?_)
          clear hK K
          try simp only [List.setIfInBounds_toArray, List.set_cons_zero, List.set_cons_succ]
          refine wpAnyH_take (i := 11) (v := ?_) rfl (by kernel_rfl) (by kernel_rfl) (by kernel_rfl) (fun _ _ _ h => h) (Or.inl ⟨by rfl, fun V hV => ?_⟩) (by assumption) ?_
          rotate_left
          · go_simp
            try with_reducible rfl
          try simp only [Act.put, List.getElem_toArray, List.getElem_cons_zero, List.getElem_cons_succ, List.setIfInBounds_toArray, List.set_cons_zero, List.set_cons_succ]
          refine wpAnyH_done (by kernel_rfl) ?_ _
          have HS30 := hid hS.1; have HX30 := hid hxx; have HH30 := hid h6
          clear hS hxx h6 g0 g1 g2 g3 g4 hi0
          obtain ⟨w30, hw30⟩ : ∃ a, w82 = a := ⟨_, rfl⟩
          subst hw30
          have g0 := HS30.out.c0; have g1 := HS30.out.c1; have g2 := HS30.out.c2; have g3 := HS30.out.c3; have g4 := HS30.out.c4
          obtain ⟨w31, hw31⟩ : ∃ a, w82.alloc (.cells #[.int .i64 r, .int .i64 cc, .slice p n c, .int .i64 sm, .slice q m d] 27) = a := ⟨_, rfl⟩
          have HB31 : Hid (BoxIs w82.heap.size #[.int .i64 r, .int .i64 cc, .slice p n c, .int .i64 sm, .slice q m d] w31) := by rw [← hw31]; exact BoxIs.start _ _ _
          have HBE31 : Hid (Below w82.heap.size w82 w31) := by rw [← hw31]; exact (Below.refl _ _).alloc (Nat.le_refl _) _
          have HSZ31 : Hid (w31.heap.size = w82.heap.size + 1) := by rw [← hw31]; exact World.size_alloc _ _
          go_upto_region 20 with fail
          go_cut [] from 22 (fun wr => ∃ v, Below w82.heap.size w82 wr ∧ BoxIs w82.heap.size #[.int .i64 r, .int .i64 cc, .slice p n c, .int .i64 sm, v] wr ∧ OwnRef wr (w82.heap.size + 1) v cs)
          case first =>
            obtain ⟨w32, hw32⟩ : ∃ a, w31.alloc (.cells #[] 59) = a := ⟨_, rfl⟩
            have hb32 : Below w31.heap.size w31 w32 := by rw [← hw32]; exact (Below.refl _ _).alloc (Nat.le_refl _) _
            have HO32 : Hid (OwnRef w32 (w82.heap.size + 1) (.slice (some ⟨w31.heap.size, 0, none⟩) 0 0) []) := by rw [← hw32]; exact ownRef_nil _ (by have := HSZ31.out; omega)
            have HBE32 := hid (HBE31.out.trans (hb32.mono (by have := HSZ31.out; omega))); have HB32 := hid (HB31.out.below hb32); have HS32 := hid (HS30.out.step HBE32.out)
            have HSZ32 : Hid (w31.heap.size ≤ w32.heap.size) := hb32.size
            clear hb32 g0 g1 g2 g3 g4
            have g4 := HS32.out.c4
            cases q with
            | none =>
              have hm0 : m = 0 := by
                refine Classical.byContradiction fun h => ?_
                obtain ⟨z0, hz0⟩ : ∃ z, cs[0]? = some z := ⟨cs[0]'(by have := HCW.out.1; omega), List.getElem?_eq_getElem _⟩
                obtain ⟨b, off, h1, _⟩ := HCW.out.2 0 z0 hz0
                cases h1
              have hcs0 : cs = [] := List.length_eq_zero_iff.1 (by rw [← HCW.out.1, hm0])
              have HCS0 := hid hcs0
              subst hm0
              clear hcs0
              have k4 := (HB32.out.2 4 _ rfl).1; have f4 := (HB32.out.2 4 _ rfl).2
              go_wp2
              go_meet
              case rel => exact ⟨_, HBE32.out.setCell (p := ⟨w82.heap.size, 4, none⟩) (Nat.le_refl _) _, HB32.out.put (j := 4) _, by rw [HCS0.out]; exact HO32.out.setOther _⟩
            | some ad =>
              go_wp2_with (at_builtin; refine append_refs (by rfl) (.tmp 121) (.tmp 123) (by rfl) (w82.heap.size + 1) _ [] ad m d cs HO32.out (by rfl) (by rfl) HS32.out.cnts (by simp) (by have := HN.out; omega) (by have h8 := HSZ32.out; have h9 := HSZ31.out; omega) ?_; intro v4 w33 ho4 hb4; rw [List.nil_append] at ho4; obtain ⟨q9, d9, rfl, hq9⟩ := ho4.slice; have HB33 := hid (HB32.out.keep hb4 (by omega)); have HBE33 := hid (HBE32.out.trans (hb4.mono (by omega))); have HO33 := hid ho4; clear hb4 ho4 hq9; have k4 := (HB33.out.2 4 _ rfl).1; have f4 := (HB33.out.2 4 _ rfl).2)
              go_meet
              case rel => exact ⟨_, HBE33.out.setCell (p := ⟨w82.heap.size, 4, none⟩) (Nat.le_refl _) _, HB33.out.put (j := 4) _, HO33.out.setOther _⟩
          case rest =>
            obtain ⟨v, hB, hBX, hO⟩ := hcut
            have HB40 := hid hB; have HBX40 := hid hBX; have HO40 := hid hO
            clear hB hBX hO g0 g1 g2 g3 g4
            go_wp2_with fail
            go_loopw [18] (fun i wr => ∃ (k : Nat) (v : Value), k ≤ nx ∧ i = .int .i64 k ∧ Below w82.heap.size w82 wr ∧ BoxIs w82.heap.size #[.int .i64 r, .int .i64 cc, .slice p n c, .int .i64 sm, v] wr ∧ OwnRef wr (w82.heap.size + 1) v (cs ++ cntsX hh (X.take k))) (fun i _ => nx - (intOf i).toNat)
            case atStart => exact ⟨0, v, by omega, rfl, HB40.out, HBX40.out, by rw [List.take_zero]; unfold cntsX; rw [List.map_nil, List.append_nil]; exact HO40.out⟩
            case round =>
              clear HB40 HBX40 HO40
              obtain ⟨k, v, hk, rfl, hB, hBX, hO⟩ := hrel
              obtain ⟨L, hL⟩ : ∃ a, cs ++ cntsX hh (X.take k) = a := ⟨_, rfl⟩
              rw [hL] at hO
              have HLL := hid hL
              obtain ⟨q9, d9, rfl, hq9⟩ := hO.slice
              obtain ⟨ln, hln⟩ : ∃ a, L.length = a := ⟨_, rfl⟩
              rw [hln] at hq9 hO hBX
              have HLN := hid hln
              have HB41 := hid hB; have HBX41 := hid hBX; have HO41 := hid hO; have HQ9 := hid hq9
              clear hL hln hq9 hB hBX hO
              have HX41 := hid (HX30.out.below HB41.out); have HH41 := hid (HH30.out.below HB41.out)
              by_cases hlt : k < nx
              · skip
                have hxl : k < X.length := by have := HNX.out; omega
                have hXk : X[k]? = some X[k] := List.getElem?_eq_getElem hxl
                have hmem := incr_mem HXP.out.1 _ (List.getElem_mem hxl)
                obtain ⟨j, hj⟩ : ∃ j : Nat, X[k] = (j : Int) := ⟨X[k].toNat, by omega⟩
                rw [hj] at hXk hmem
                have hjm : j < n := by have := HNX.out; omega
                have HGX : Hid (X[k]?.getD 0 = (j : Int)) := by show _ = _; rw [hXk]; rfl
                have HXK := hid hXk
                obtain ⟨bx, ox, hpx, _, _⟩ := HX41.out.at hlt
                subst hpx
                obtain ⟨bh, oh, hph, _, _⟩ := HH41.out.at hjm
                subst hph
                obtain ⟨hv, hhv⟩ : ∃ a, hh[j]?.getD 0 = a := ⟨_, rfl⟩
                have HHV := hid hhv
                have HN9 : Hid (nx ≤ 9 ∧ m ≤ 9) := ⟨HNX9.out, HN.out.2⟩
                have hlb : ln ≤ 20 := by rw [← HLN.out, ← HLL.out, List.length_append, cntsX, List.length_map, List.length_take]; have := HCW.out.1; have := HN.out; have := HNX9.out; omega
                have HLB := hid hlb
                clear hxl hmem hj hXk hhv hlb
                go_wp2_with fail
                have HX30b : Hid (IntsAt w82 (some ⟨bx, ox, none⟩) nx X) := HX30.out; have HH30b : Hid (IntsAt w82 (some ⟨bh, oh, none⟩) n hh) := HH30.out
                refine wp_region_held_drew (S := fun V => Below w82.heap.size w82 V ∧ IntsAt V (some ⟨bx, ox, none⟩) nx X ∧ IntsAt V (some ⟨bh, oh, none⟩) n hh ∧ (∃ vq, BoxIs w82.heap.size #[.int .i64 r, .int .i64 cc, .slice p n c, .int .i64 sm, vq] V)) (by kernel_rfl) (⟨HB41.out.drew, HX41.out, HH41.out, _, HBX41.out⟩) (fun hS => ?_)
                simp only [List.size_toArray, List.length_cons, List.length_nil, Nat.reduceAdd, Array.replicate_succ, Array.replicate_zero, List.push_toArray, List.nil_append, List.cons_append]
                refine wpAnyH_take (i := 0) (v := ?_) rfl (by kernel_rfl) (by kernel_rfl) (by kernel_rfl) (fun _ _ _ h => h) (Or.inl ⟨by rfl, fun V hV => ?_⟩) (by assumption) ?_
                rotate_left
                · go_simp
                  try with_reducible rfl
                try simp only [Act.put, List.getElem_toArray, List.getElem_cons_zero, List.setIfInBounds_toArray, List.set_cons_zero, List.set_cons_succ]
                refine wpAnyH_take (i := 2) (v := ?_) rfl (by kernel_rfl) (by kernel_rfl) (by kernel_rfl) (fun _ _ _ h => h) (Or.inl ⟨by rfl, fun V hV => ?_⟩) (by assumption) ?_
                rotate_left
                · go_simp
                  try with_reducible rfl
                try simp only [Act.put, List.getElem_toArray, List.getElem_cons_zero, List.getElem_cons_succ, List.setIfInBounds_toArray, List.set_cons_zero, List.set_cons_succ]
                refine wpAnyH_take (i := 3) (v := ?_) rfl (by kernel_rfl) (by kernel_rfl) (by kernel_rfl) (fun _ _ _ h => h) (Or.inl ⟨by rfl, fun V hV => ?_⟩) (by assumption) ?_
                rotate_left
                · go_simp
                  try with_reducible rfl
                try simp only [Act.put, List.getElem_toArray, List.getElem_cons_zero, List.getElem_cons_succ, List.setIfInBounds_toArray, List.set_cons_zero, List.set_cons_succ]
                refine wpAnyH_take (i := 4) (v := ?_) rfl (by kernel_rfl) (by kernel_rfl) (by kernel_rfl) (fun _ _ _ h => h) (Or.inl ⟨by rfl, fun V hV => ?_⟩) (by assumption) ?_
                rotate_left
                · go_simp
                  try with_reducible rfl
                try simp only [Act.put, List.getElem_toArray, List.getElem_cons_zero, List.getElem_cons_succ, List.setIfInBounds_toArray, List.set_cons_zero, List.set_cons_succ]
                refine wpAnyH_take (i := 5) (v := ?_) rfl (by kernel_rfl) (by kernel_rfl) (by kernel_rfl) (fun _ _ _ h => h) (Or.inl ⟨by rfl, fun V hV => ?_⟩) (by assumption) ?_
                rotate_left
                · have hc := hV.2.1.get hlt; rw [HGX.out] at hc; go_simp
                  try with_reducible rfl
                try simp only [Act.put, List.getElem_toArray, List.getElem_cons_zero, List.getElem_cons_succ, List.setIfInBounds_toArray, List.set_cons_zero, List.set_cons_succ]
                refine wpAnyH_take (i := 6) (v := ?_) rfl (by kernel_rfl) (by kernel_rfl) (by kernel_rfl) (fun _ _ _ h => h) (Or.inl ⟨by rfl, fun V hV => ?_⟩) (by assumption) ?_
                rotate_left
                · go_simp
                  try with_reducible rfl
                try simp only [Act.put, List.getElem_toArray, List.getElem_cons_zero, List.getElem_cons_succ, List.setIfInBounds_toArray, List.set_cons_zero, List.set_cons_succ]
                refine wpAnyH_take (i := 7) (v := ?_) rfl (by kernel_rfl) (by kernel_rfl) (by kernel_rfl) (fun _ _ _ h => h) (Or.inl ⟨by rfl, fun V hV => ?_⟩) (by assumption) ?_
                rotate_left
                · go_simp
                  try with_reducible rfl
                try simp only [Act.put, List.getElem_toArray, List.getElem_cons_zero, List.getElem_cons_succ, List.setIfInBounds_toArray, List.set_cons_zero, List.set_cons_succ]
                refine wpAnyH_take (i := 8) (v := ?_) rfl (by kernel_rfl) (by kernel_rfl) (by kernel_rfl) (fun _ _ _ h => h) (Or.inl ⟨by rfl, fun V hV => ?_⟩) (by assumption) ?_
                rotate_left
                · go_simp
                  try with_reducible rfl
                try simp only [Act.put, List.getElem_toArray, List.getElem_cons_zero, List.getElem_cons_succ, List.setIfInBounds_toArray, List.set_cons_zero, List.set_cons_succ]
                refine wpAnyH_take (i := 9) (v := ?_) rfl (by kernel_rfl) (by kernel_rfl) (by kernel_rfl) (fun _ _ _ h => h) (Or.inl ⟨by rfl, fun V hV => ?_⟩) (by assumption) ?_
                rotate_left
                · go_simp
                  try with_reducible rfl
                try simp only [Act.put, List.getElem_toArray, List.getElem_cons_zero, List.getElem_cons_succ, List.setIfInBounds_toArray, List.set_cons_zero, List.set_cons_succ]
                refine wpAnyH_take (i := 10) (v := ?_) rfl (by kernel_rfl) (by kernel_rfl) (by kernel_rfl) (fun _ _ _ h => h) (Or.inl ⟨by rfl, fun V hV => ?_⟩) (by assumption) ?_
                rotate_left
                · have hc := hV.2.1.get hlt; rw [HGX.out] at hc; go_simp
                  try with_reducible rfl
                try simp only [Act.put, List.getElem_toArray, List.getElem_cons_zero, List.getElem_cons_succ, List.setIfInBounds_toArray, List.set_cons_zero, List.set_cons_succ]
                refine wpAnyH_take (i := 11) (v := ?_) rfl (by kernel_rfl) (by kernel_rfl) (by kernel_rfl) (fun _ _ _ h => h) (Or.inl ⟨by rfl, fun V hV => ?_⟩) (by assumption) ?_
                rotate_left
                · go_simp
                  try with_reducible rfl
                try simp only [Act.put, List.getElem_toArray, List.getElem_cons_zero, List.getElem_cons_succ, List.setIfInBounds_toArray, List.set_cons_zero, List.set_cons_succ]
                refine wpAnyH_take (i := 12) (v := ?_) rfl (by kernel_rfl) (by kernel_rfl) (by kernel_rfl) (fun _ _ _ h => h) (Or.inl ⟨by rfl, fun V hV => ?_⟩) (by assumption) ?_
                rotate_left
                · have hc := hV.2.2.1.get hjm; rw [HHV.out] at hc; go_simp
                  try with_reducible rfl
                try simp only [Act.put, List.getElem_toArray, List.getElem_cons_zero, List.getElem_cons_succ, List.setIfInBounds_toArray, List.set_cons_zero, List.set_cons_succ]
                refine wpAnyH_take (i := 13) (v := ?_) rfl (by kernel_rfl) (by kernel_rfl) (by kernel_rfl) (fun _ _ _ h => h) (Or.inl ⟨by rfl, fun V hV => ?_⟩) (by assumption) ?_
                rotate_left
                · go_simp
                  try with_reducible rfl
                try simp only [Act.put, List.getElem_toArray, List.getElem_cons_zero, List.getElem_cons_succ, List.setIfInBounds_toArray, List.set_cons_zero, List.set_cons_succ]
                refine wpAnyH_take (i := 14) (v := ?_) rfl (by kernel_rfl) (by kernel_rfl) (by kernel_rfl) (fun _ _ _ h => h) (Or.inl ⟨by rfl, fun V hV => ?_⟩) (by assumption) ?_
                rotate_left
                · go_simp
                  try with_reducible rfl
                try simp only [Act.put, List.getElem_toArray, List.getElem_cons_zero, List.getElem_cons_succ, List.setIfInBounds_toArray, List.set_cons_zero, List.set_cons_succ]
                refine wpAnyH_take (i := 15) (v := ?_) rfl (by kernel_rfl) (by kernel_rfl) (by kernel_rfl) (fun _ _ _ h => h) (Or.inl ⟨by rfl, fun V hV => ?_⟩) (by assumption) ?_
                rotate_left
                · go_simp
                  try with_reducible rfl
                try simp only [Act.put, List.getElem_toArray, List.getElem_cons_zero, List.getElem_cons_succ, List.setIfInBounds_toArray, List.set_cons_zero, List.set_cons_succ]
                refine wpAnyH_take (i := 16) (v := ?_) rfl (by kernel_rfl) (by kernel_rfl) (by kernel_rfl) (fun _ _ _ h => h) (Or.inl ⟨by rfl, fun V hV => ?_⟩) (by assumption) ?_
                rotate_left
                · go_simp
                  try with_reducible rfl
                try simp only [Act.put, List.getElem_toArray, List.getElem_cons_zero, List.getElem_cons_succ, List.setIfInBounds_toArray, List.set_cons_zero, List.set_cons_succ]
                refine wpAnyH_take (i := 17) (v := ?_) rfl (by kernel_rfl) (by kernel_rfl) (by kernel_rfl) (fun _ _ _ h => h) (Or.inl ⟨by rfl, fun V hV => ?_⟩) (by assumption) ?_
                rotate_left
                · have hc := hV.2.1.get hlt; rw [HGX.out] at hc; go_simp
                  try with_reducible rfl
                try simp only [Act.put, List.getElem_toArray, List.getElem_cons_zero, List.getElem_cons_succ, List.setIfInBounds_toArray, List.set_cons_zero, List.set_cons_succ]
                refine wpAnyH_take (i := 18) (v := ?_) rfl (by kernel_rfl) (by kernel_rfl) (by kernel_rfl) (fun _ _ _ h => h) (Or.inl ⟨by rfl, fun V hV => ?_⟩) (by assumption) ?_
                rotate_left
                · go_simp
                  try with_reducible rfl
                try simp only [Act.put, List.getElem_toArray, List.getElem_cons_zero, List.getElem_cons_succ, List.setIfInBounds_toArray, List.set_cons_zero, List.set_cons_succ]
                refine wpAnyH_take (i := 19) (v := ?_) rfl (by kernel_rfl) (by kernel_rfl) (by kernel_rfl) (fun _ _ _ h => h) (Or.inl ⟨by rfl, fun V hV => ?_⟩) (by assumption) ?_
                rotate_left
                · have hc := hV.2.2.1.get hjm; rw [HHV.out] at hc; go_simp
                  try with_reducible rfl
                try simp only [Act.put, List.getElem_toArray, List.getElem_cons_zero, List.getElem_cons_succ, List.setIfInBounds_toArray, List.set_cons_zero, List.set_cons_succ]
                refine wpAnyH_take (i := 20) (v := ?_) rfl (by kernel_rfl) (by kernel_rfl) (by kernel_rfl) (fun _ _ _ h => h) (Or.inl ⟨by rfl, fun V hV => ?_⟩) (by assumption) ?_
                rotate_left
                · go_simp
                  try with_reducible rfl
                try simp only [Act.put, List.getElem_toArray, List.getElem_cons_zero, List.getElem_cons_succ, List.setIfInBounds_toArray, List.set_cons_zero, List.set_cons_succ]
                refine wpAnyH_take (i := 21) (v := ?_) rfl (by kernel_rfl) (by kernel_rfl) (by kernel_rfl) (fun _ _ _ h => h) (Or.inl ⟨by rfl, fun V hV => ?_⟩) (by assumption) ?_
                rotate_left
                · go_simp
                  try with_reducible rfl
                try simp only [Act.put, List.getElem_toArray, List.getElem_cons_zero, List.getElem_cons_succ, List.setIfInBounds_toArray, List.set_cons_zero, List.set_cons_succ]
                refine wpAnyH_ready (rs := [1, 22]) (by kernel_rfl) (by simp) ?_
                refine AllReadyH.cons (o := _) rfl (fun K hK => ?_) ?_
                · skip
                  have k4 := (HBX41.out.2 4 _ rfl).1
                  go_simp
                  clear k4
                  refine hK.out _ _ (hS) (fun hS => ?_)
                  clear hK K
                  try simp only [List.setIfInBounds_toArray, List.set_cons_zero, List.set_cons_succ]
                  refine wpAnyH_ready (rs := [22]) (by kernel_rfl) (by simp) ?_
                  refine AllReadyH.cons (o := _) rfl (fun K hK => ?_) AllReadyH.nil
                  obtain ⟨V22, hV22⟩ : ∃ V, (wr.drew).alloc (.cells #[.int .i64 (j : Int), .int .i64 hv, .int .i64 hv, .bool false] 59) = V := ⟨_, rfl⟩
                  have hb : Below (wr.drew).heap.size wr.drew V22 := by rw [← hV22]; exact (Below.refl _ _).alloc (Nat.le_refl _) _
                  have h1 : CntsAt V22 (some ⟨wr.heap.size, 0, none⟩) 1 [⟨(j : Int), hv, hv, false⟩] := by obtain ⟨p7, c7, e7, h7⟩ := (ownRef_one wr.drew ⟨(j : Int), hv, hv, false⟩).slice; cases e7; rw [← hV22]; exact h7
                  have ho : OwnRef V22 (w82.heap.size + 1) (.slice q9 ln d9) L := (show OwnRef wr.drew _ _ _ from HO41.out).below hb
                  have hB := HB41.out.drew.trans (hb.mono HB41.out.size)
                  have hbx := (show BoxIs w82.heap.size _ wr.drew from HBX41.out).below hb
                  have hg1 : Hid (w82.heap.size + 1 ≤ V22.heap.size) := by have h8 := hbx.1; exact h8
                  clear hb
                  go_simp
                  refine hK.out _ _ (⟨hB, HX30b.out.below hB, HH30b.out.below hB, _, hbx⟩) (fun hS => ?_)
                  clear hK K
                  try simp only [List.setIfInBounds_toArray, List.set_cons_zero, List.set_cons_succ]
                  refine wpAnyH_ready (rs := [23]) (by kernel_rfl) (by simp) ?_
                  refine AllReadyH.cons (o := _) rfl (fun K hK => ?_) AllReadyH.nil
                  refine step_append_ref (by rfl) (.tmp 133) (.tmp 154) (by rfl) (w82.heap.size + 1) _ L _ 1 1 [⟨(j : Int), hv, hv, false⟩] ho (by rfl) (by rfl) h1 (by have h7 := HLB.out; have h8 := HLN.out; omega) (by omega) hg1.out ?_
                  intro v6 V6 ho6 hb _
                  have hB := hB.trans (hb.mono (by omega))
                  have hbx := hbx.keep hb (by omega)
                  obtain ⟨q8, d8, rfl, hq8⟩ := ho6.slice
                  obtain ⟨l8, hl8⟩ : ∃ a, (L ++ [⟨(j : Int), hv, hv, false⟩] : List Cnt).length = a := ⟨_, rfl⟩
                  rw [hl8] at hq8 ho6 ⊢
                  clear hl8 hb ho h1 hq8
                  refine hK.out _ _ (⟨hB, HX30b.out.below hB, HH30b.out.below hB, _, hbx⟩) (fun hS => ?_)
                  clear hK K
                  try simp only [Act.put, List.getElem_toArray, List.getElem_cons_zero, List.getElem_cons_succ, List.setIfInBounds_toArray, List.set_cons_zero, List.set_cons_succ]
                  refine wpAnyH_take (i := 24) (v := ?_) rfl (by kernel_rfl) (by kernel_rfl) (by kernel_rfl) (fun _ _ _ h => h) (Or.inl ⟨by rfl, fun V hV => ?_⟩) (by assumption) ?_
                  rotate_left
                  · go_simp
                    try with_reducible rfl
                  try simp only [Act.put, List.getElem_toArray, List.getElem_cons_zero, List.getElem_cons_succ, List.setIfInBounds_toArray, List.set_cons_zero, List.set_cons_succ]
                  refine wpAnyH_ready (rs := [25]) (by kernel_rfl) (by simp) ?_
                  refine AllReadyH.cons (o := _) rfl (fun K hK => ?_) AllReadyH.nil
                  have k4 := (hbx.2 4 _ rfl).1; have f4 := (hbx.2 4 _ rfl).2
                  go_simp
                  have hfb := hid (hB.setCell (p := ⟨w82.heap.size, 4, none⟩) (Nat.le_refl _) (.slice q8 l8 d8)); have hfx := hid (hbx.put (j := 4) (.slice q8 l8 d8)); have hfo := hid (ho6.setOther (k := 4) (.slice q8 l8 d8))
                  clear hbx ho6 hB
                  refine hK.out _ _ (⟨hfb.out, HX30b.out.below hfb.out, HH30b.out.below hfb.out, _, hfx.out⟩) (fun hS => ?_)
                  clear hK K
                  try simp only [List.setIfInBounds_toArray, List.set_cons_zero, List.set_cons_succ]
                  refine wpAnyH_done (by kernel_rfl) ?_ _
                  clear hS
                  have hn9 : nx ≤ 9 := HNX9.out
                  go_wp2
                  go_roundw
                  case rel => exact ⟨k + 1, _, by omega, by go_num, hfb.out, hfx.out, by rw [cntsX_snoc HXK.out, ← List.append_assoc, HLL.out, HHV.out]; exact hfo.out⟩
                  case measure => simp [intOf]; omega
                refine AllReadyH.cons (o := _) rfl (fun K hK => ?_) AllReadyH.nil
                obtain ⟨V22, hV22⟩ : ∃ V, (wr.drew).alloc (.cells #[.int .i64 (j : Int), .int .i64 hv, .int .i64 hv, .bool false] 59) = V := ⟨_, rfl⟩
                have hb : Below (wr.drew).heap.size wr.drew V22 := by rw [← hV22]; exact (Below.refl _ _).alloc (Nat.le_refl _) _
                have h1 : CntsAt V22 (some ⟨wr.heap.size, 0, none⟩) 1 [⟨(j : Int), hv, hv, false⟩] := by obtain ⟨p7, c7, e7, h7⟩ := (ownRef_one wr.drew ⟨(j : Int), hv, hv, false⟩).slice; cases e7; rw [← hV22]; exact h7
                have ho : OwnRef V22 (w82.heap.size + 1) (.slice q9 ln d9) L := (show OwnRef wr.drew _ _ _ from HO41.out).below hb
                have hB := HB41.out.drew.trans (hb.mono HB41.out.size)
                have hbx := (show BoxIs w82.heap.size _ wr.drew from HBX41.out).below hb
                have hg1 : Hid (w82.heap.size + 1 ≤ V22.heap.size) := by have h8 := hbx.1; exact h8
                clear hb
                go_simp
                refine hK.out _ _ (⟨hB, HX30b.out.below hB, HH30b.out.below hB, _, hbx⟩) (fun hS => ?_)
                clear hK K
                try simp only [List.setIfInBounds_toArray, List.set_cons_zero, List.set_cons_succ]
                refine wpAnyH_ready (rs := [1]) (by kernel_rfl) (by simp) ?_
                refine AllReadyH.cons (o := _) rfl (fun K hK => ?_) AllReadyH.nil
                have k4 := (hbx.2 4 _ rfl).1
                go_simp
                clear k4
                refine hK.out _ _ (hS) (fun hS => ?_)
                clear hK K
                try simp only [List.setIfInBounds_toArray, List.set_cons_zero, List.set_cons_succ]
                refine wpAnyH_ready (rs := [23]) (by kernel_rfl) (by simp) ?_
                refine AllReadyH.cons (o := _) rfl (fun K hK => ?_) AllReadyH.nil
                refine step_append_ref (by rfl) (.tmp 133) (.tmp 154) (by rfl) (w82.heap.size + 1) _ L _ 1 1 [⟨(j : Int), hv, hv, false⟩] ho (by rfl) (by rfl) h1 (by have h7 := HLB.out; have h8 := HLN.out; omega) (by omega) hg1.out ?_
                intro v6 V6 ho6 hb _
                have hB := hB.trans (hb.mono (by omega))
                have hbx := hbx.keep hb (by omega)
                obtain ⟨q8, d8, rfl, hq8⟩ := ho6.slice
                obtain ⟨l8, hl8⟩ : ∃ a, (L ++ [⟨(j : Int), hv, hv, false⟩] : List Cnt).length = a := ⟨_, rfl⟩
                rw [hl8] at hq8 ho6 ⊢
                clear hl8 hb ho h1 hq8
                refine hK.out _ _ (⟨hB, HX30b.out.below hB, HH30b.out.below hB, _, hbx⟩) (fun hS => ?_)
                clear hK K
                try simp only [Act.put, List.getElem_toArray, List.getElem_cons_zero, List.getElem_cons_succ, List.setIfInBounds_toArray, List.set_cons_zero, List.set_cons_succ]
                refine wpAnyH_take (i := 24) (v := ?_) rfl (by kernel_rfl) (by kernel_rfl) (by kernel_rfl) (fun _ _ _ h => h) (Or.inl ⟨by rfl, fun V hV => ?_⟩) (by assumption) ?_
                rotate_left
                · go_simp
                  try with_reducible rfl
                try simp only [Act.put, List.getElem_toArray, List.getElem_cons_zero, List.getElem_cons_succ, List.setIfInBounds_toArray, List.set_cons_zero, List.set_cons_succ]
                refine wpAnyH_ready (rs := [25]) (by kernel_rfl) (by simp) ?_
                refine AllReadyH.cons (o := _) rfl (fun K hK => ?_) AllReadyH.nil
                have k4 := (hbx.2 4 _ rfl).1; have f4 := (hbx.2 4 _ rfl).2
                go_simp
                have hfb := hid (hB.setCell (p := ⟨w82.heap.size, 4, none⟩) (Nat.le_refl _) (.slice q8 l8 d8)); have hfx := hid (hbx.put (j := 4) (.slice q8 l8 d8)); have hfo := hid (ho6.setOther (k := 4) (.slice q8 l8 d8))
                clear hbx ho6 hB
                refine hK.out _ _ (⟨hfb.out, HX30b.out.below hfb.out, HH30b.out.below hfb.out, _, hfx.out⟩) (fun hS => ?_)
                clear hK K
                try simp only [List.setIfInBounds_toArray, List.set_cons_zero, List.set_cons_succ]
                refine wpAnyH_done (by kernel_rfl) ?_ _
                clear hS
                have hn9 : nx ≤ 9 := HNX9.out
                go_wp2
                go_roundw
                case rel => exact ⟨k + 1, _, by omega, by go_num, hfb.out, hfx.out, by rw [cntsX_snoc HXK.out, ← List.append_assoc, HLL.out, HHV.out]; exact hfo.out⟩
                case measure => simp [intOf]; omega
              · skip
                obtain rfl : nx = k := by omega
                have hL2 : L = cs ++ cntsX hh X := by rw [← HLL.out, HNX.out.1, List.take_length]
                subst hL2
                obtain ⟨w50, hw50⟩ : ∃ a, wr = a := ⟨_, rfl⟩
                rw [hw50] at HB41 HBX41 HO41 HQ9 HX41 HH41 ⊢
                clear hw50
                have HS50 := hid (HS30.out.step HB41.out)
                have HZ50 := hid (HBX41.out.sbox HS50.out.ints HQ9.out : SBox w82.heap.size r cc p n c l sm q9 ln d9 (cs ++ cntsX hh X) w50)
                have HH50 := HH41
                have g0 := HS50.out.c0; have g1 := HS50.out.c1; have g2 := HS50.out.c2; have g3 := HS50.out.c3; have g4 := HS50.out.c4
                have z0 := HZ50.out.c0; have z1 := HZ50.out.c1; have z2 := HZ50.out.c2; have z3 := HZ50.out.c3; have z4 := HZ50.out.c4
                obtain ⟨cb2, hcb2⟩ : ∃ a, (thinB n ln && decide (faultL r cc l sm (cs ++ cntsX hh X) = 0)) = a := ⟨_, rfl⟩
                have HCB2 := hid hcb2
                go_wp2_with fail
                refine (ready_any r cc p n c l sm q9 ln d9 (cs ++ cntsX hh X) _ HZ50.out.ints HZ50.out.cnts).mono ?_
                rintro e w51 ⟨rfl, hb⟩
                have HS51 := hid (HS50.out.step hb)
                have HZ51 := hid (HZ50.out.below hb)
                have HH51 := hid (HH50.out.below hb)
                rw [hcb2]
                clear hcb2
                clear hb z0 z1 z2 z3 z4 g0 g1 g2 g3 g4
                have g0 := HS51.out.c0; have g1 := HS51.out.c1; have g2 := HS51.out.c2; have g3 := HS51.out.c3; have g4 := HS51.out.c4
                have z0 := HZ51.out.c0; have z1 := HZ51.out.c1; have z2 := HZ51.out.c2; have z3 := HZ51.out.c3; have z4 := HZ51.out.c4
                cases cb2 with
                | true =>
                  have hf2 : faultL r cc l sm (cs ++ cntsX hh X) = 0 ∧ ln ≤ 9 := by have h := HCB2.out; simp only [Bool.and_eq_true, thinB, decide_eq_true_eq] at h; exact ⟨h.2, h.1.2⟩
                  have HF2 := hid hf2
                  clear hf2
                  have HVD := hid (decided_verdict HF.out HF2.out.1 HXP.out.2.1 HHM.out HNB.out.1 HNB.out.2)
                  obtain ⟨shv, hshv⟩ : ∃ a, shareL l hh = a := ⟨_, rfl⟩
                  rw [hshv] at HVD
                  have HSHV := hid hshv
                  clear hshv
                  by_cases hc : n0 ≤ shv
                  · skip
                    have HV1 := HVD.out
                    rw [if_pos hc] at HV1
                    have HVV := hid HV1; have HHC := hid hc
                    clear HV1 hc
                    go_wp2_with fail
                    refine (surveyX_any r cc p n c l sm q9 ln d9 (cs ++ cntsX hh X) _ HZ51.out.ints HZ51.out.cnts (by have := HN.out; omega) (by have := HF2.out; omega)).mono ?_
                    rintro e w52 ⟨p8, n8, c8, q8, m8, d8, rfl, hi3, hc3, hb⟩
                    have HS52 := hid (HS51.out.step hb)
                    have HZ52 := hid (HZ51.out.below hb)
                    have HH52 := hid (HH51.out.below hb)
                    have HI52 := hid hi3; have HC52 := hid hc3; clear hi3 hc3
                    have HL8 : Hid (n8 ≤ 12 ∧ m8 ≤ 9) := ⟨by have := HI52.out.1; have := HS52.out.ints.1; have := HN.out; omega, by have := HC52.out.1; have := HZ52.out.cnts.1; have := HF2.out; omega⟩
                    clear hb z0 z1 z2 z3 z4 g0 g1 g2 g3 g4
                    have g0 := HS52.out.c0; have g1 := HS52.out.c1; have g2 := HS52.out.c2; have g3 := HS52.out.c3; have g4 := HS52.out.c4
                    have z0 := HZ52.out.c0; have z1 := HZ52.out.c1; have z2 := HZ52.out.c2; have z3 := HZ52.out.c3; have z4 := HZ52.out.c4
                    go_wp2_with fail
                    refine (Above_any r cc p8 n8 c8 l sm q8 m8 d8 (cs ++ cntsX hh X) n0 _ HI52.out HC52.out (by have := HL8.out; omega) (by have := HL8.out; omega)).mono ?_
                    rintro e w53 ⟨rfl, hb⟩
                    have HS53 := hid (HS52.out.step hb)
                    have HZ53 := hid (HZ52.out.below hb)
                    have HH53 := hid (HH52.out.below hb)
                    rw [HVV.out]
                    clear hb z0 z1 z2 z3 z4 g0 g1 g2 g3 g4
                    have g0 := HS53.out.c0; have g1 := HS53.out.c1; have g2 := HS53.out.c2; have g3 := HS53.out.c3; have g4 := HS53.out.c4
                    have z0 := HZ53.out.c0; have z1 := HZ53.out.c1; have z2 := HZ53.out.c2; have z3 := HZ53.out.c3; have z4 := HZ53.out.c4
                    go_wp2_with fail
                    refine (share_any r cc p n c l ph ch hh _ HS53.out.ints HH53.out (by have := HN1.out; omega) HFF.out.2.2.2.2.2.2.2 (listed_bd (genP_listed HHM.out) HFF.out.2.2.2.2.2.2.2).2).mono ?_
                    rintro e w54 ⟨rfl, hb⟩
                    have HS54 := hid (HS53.out.step hb)
                    have HZ54 := hid (HZ53.out.below hb)
                    have HH54 := hid (HH53.out.below hb)
                    rw [HSHV.out]
                    clear hb z0 z1 z2 z3 z4 g0 g1 g2 g3 g4
                    have g0 := HS54.out.c0; have g1 := HS54.out.c1; have g2 := HS54.out.c2; have g3 := HS54.out.c3; have g4 := HS54.out.c4
                    have z0 := HZ54.out.c0; have z1 := HZ54.out.c1; have z2 := HZ54.out.c2; have z3 := HZ54.out.c3; have z4 := HZ54.out.c4
                    have hc : n0 ≤ shv := by have h9 := HHC.out; omega
                    have hcb : decide (n0 ≤ shv) = true := by simpa using hc
                    have hcc : decide (shv ≥ n0) = true := by simpa using hc
                    go_wp2_with fail
                    refine (awake_any _).mono ?_
                    rintro e w99 ⟨rfl, hb⟩
                    go_wp2_with fail
                    go_ret
                    exact ⟨rfl, HS54.out.below.trans (hb.mono HS54.out.below.size)⟩
                  · skip
                    have HV1 := HVD.out
                    rw [if_neg hc] at HV1
                    have HVV := hid HV1; have HHC := hid hc
                    clear HV1 hc
                    go_wp2_with fail
                    refine (surveyX_any r cc p n c l sm q9 ln d9 (cs ++ cntsX hh X) _ HZ51.out.ints HZ51.out.cnts (by have := HN.out; omega) (by have := HF2.out; omega)).mono ?_
                    rintro e w52 ⟨p8, n8, c8, q8, m8, d8, rfl, hi3, hc3, hb⟩
                    have HS52 := hid (HS51.out.step hb)
                    have HZ52 := hid (HZ51.out.below hb)
                    have HH52 := hid (HH51.out.below hb)
                    have HI52 := hid hi3; have HC52 := hid hc3; clear hi3 hc3
                    have HL8 : Hid (n8 ≤ 12 ∧ m8 ≤ 9) := ⟨by have := HI52.out.1; have := HS52.out.ints.1; have := HN.out; omega, by have := HC52.out.1; have := HZ52.out.cnts.1; have := HF2.out; omega⟩
                    clear hb z0 z1 z2 z3 z4 g0 g1 g2 g3 g4
                    have g0 := HS52.out.c0; have g1 := HS52.out.c1; have g2 := HS52.out.c2; have g3 := HS52.out.c3; have g4 := HS52.out.c4
                    have z0 := HZ52.out.c0; have z1 := HZ52.out.c1; have z2 := HZ52.out.c2; have z3 := HZ52.out.c3; have z4 := HZ52.out.c4
                    go_wp2_with fail
                    refine (Above_any r cc p8 n8 c8 l sm q8 m8 d8 (cs ++ cntsX hh X) n0 _ HI52.out HC52.out (by have := HL8.out; omega) (by have := HL8.out; omega)).mono ?_
                    rintro e w53 ⟨rfl, hb⟩
                    have HS53 := hid (HS52.out.step hb)
                    have HZ53 := hid (HZ52.out.below hb)
                    have HH53 := hid (HH52.out.below hb)
                    rw [HVV.out]
                    clear hb z0 z1 z2 z3 z4 g0 g1 g2 g3 g4
                    have g0 := HS53.out.c0; have g1 := HS53.out.c1; have g2 := HS53.out.c2; have g3 := HS53.out.c3; have g4 := HS53.out.c4
                    have z0 := HZ53.out.c0; have z1 := HZ53.out.c1; have z2 := HZ53.out.c2; have z3 := HZ53.out.c3; have z4 := HZ53.out.c4
                    go_wp2_with fail
                    refine (share_any r cc p n c l ph ch hh _ HS53.out.ints HH53.out (by have := HN1.out; omega) HFF.out.2.2.2.2.2.2.2 (listed_bd (genP_listed HHM.out) HFF.out.2.2.2.2.2.2.2).2).mono ?_
                    rintro e w54 ⟨rfl, hb⟩
                    have HS54 := hid (HS53.out.step hb)
                    have HZ54 := hid (HZ53.out.below hb)
                    have HH54 := hid (HH53.out.below hb)
                    rw [HSHV.out]
                    clear hb z0 z1 z2 z3 z4 g0 g1 g2 g3 g4
                    have g0 := HS54.out.c0; have g1 := HS54.out.c1; have g2 := HS54.out.c2; have g3 := HS54.out.c3; have g4 := HS54.out.c4
                    have z0 := HZ54.out.c0; have z1 := HZ54.out.c1; have z2 := HZ54.out.c2; have z3 := HZ54.out.c3; have z4 := HZ54.out.c4
                    have hc : ¬ n0 ≤ shv := by have h9 := HHC.out; omega
                    have hcd : shv < n0 := by omega
                    have hcb : decide (n0 ≤ shv) = false := by simpa using hc
                    have hcc : decide (shv ≥ n0) = false := by simpa using hc
                    go_wp2_with fail
                    refine (awake_any _).mono ?_
                    rintro e w99 ⟨rfl, hb⟩
                    go_wp2_with fail
                    go_ret
                    exact ⟨rfl, HS54.out.below.trans (hb.mono HS54.out.below.size)⟩
                | false =>
                  go_wp2_with fail
                  refine (awake_any _).mono ?_
                  rintro e w99 ⟨rfl, hb⟩
                  go_wp2_with fail
                  go_ret
                  exact ⟨rfl, HS51.out.below.trans (hb.mono HS51.out.below.size)⟩
  | false =>
    go_wp2_with fail
    refine (awake_any _).mono ?_
    rintro e w99 ⟨rfl, hb⟩
    go_wp2_with fail
    go_ret
    exact ⟨rfl, HS2.out.below.trans (hb.mono HS2.out.below.size)⟩
end Go.Proofs.Ytlicijnaacdceaa
