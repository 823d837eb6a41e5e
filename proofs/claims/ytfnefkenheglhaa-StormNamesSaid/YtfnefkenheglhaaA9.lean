/- The reference: whether a truth is one of a storm; Every, Can. No condition. -/
import Derived.Test.YtfnefkenheglhaaA8
namespace Go.Proofs.Ytfnefkenheglhaa
open Go.RowKit

theorem card2_of {w W : World} {s : Sto} {t : Tru} {b1 o1 : Nat} {n c : Nat} {j : Nat} {x : Crd} (hc : CrdsAt w (some ⟨b1, o1, none⟩) n s.cards) (hx : s.cards[j]? = some x) (h : Boxed2 w #[.int .i64 s.wide, .int .i64 s.high, .int .i64 s.fall, .int .i64 s.a.lo, .int .i64 s.a.hi, .int .i64 s.b.lo, .int .i64 s.b.hi, .int .i64 s.half.lo, .int .i64 s.half.hi, .int .i64 s.peak.lo, .int .i64 s.peak.hi, .slice (some ⟨b1, o1, none⟩) n c] 26 #[.int .i64 t.a, .int .i64 t.b, .int .i64 t.half, .int .i64 t.peak] 92 W) :
    W.cell? ⟨w.heap.size, 0, none⟩ = some (.int .i64 s.wide) ∧ W.cell? ⟨w.heap.size, 1, none⟩ = some (.int .i64 s.high) ∧ W.cell? ⟨w.heap.size, 2, none⟩ = some (.int .i64 s.fall) ∧ W.cell? ⟨w.heap.size, 3, none⟩ = some (.int .i64 s.a.lo) ∧ W.cell? ⟨w.heap.size, 4, none⟩ = some (.int .i64 s.a.hi) ∧ W.cell? ⟨w.heap.size, 5, none⟩ = some (.int .i64 s.b.lo) ∧ W.cell? ⟨w.heap.size, 6, none⟩ = some (.int .i64 s.b.hi) ∧ W.cell? ⟨w.heap.size, 7, none⟩ = some (.int .i64 s.half.lo) ∧ W.cell? ⟨w.heap.size, 8, none⟩ = some (.int .i64 s.half.hi) ∧ W.cell? ⟨w.heap.size, 9, none⟩ = some (.int .i64 s.peak.lo) ∧ W.cell? ⟨w.heap.size, 10, none⟩ = some (.int .i64 s.peak.hi) ∧ W.cell? ⟨w.heap.size, 11, none⟩ = some (.slice (some ⟨b1, o1, none⟩) n c) ∧ W.cell? ⟨w.heap.size + 1, 0, none⟩ = some (.int .i64 t.a) ∧ W.cell? ⟨w.heap.size + 1, 1, none⟩ = some (.int .i64 t.b) ∧ W.cell? ⟨w.heap.size + 1, 2, none⟩ = some (.int .i64 t.half) ∧ W.cell? ⟨w.heap.size + 1, 3, none⟩ = some (.int .i64 t.peak) ∧ W.cell? ⟨b1, o1 + j * 7, none⟩ = some (.int .i64 x.x.lo) ∧ W.cell? ⟨b1, o1 + j * 7 + 1, none⟩ = some (.int .i64 x.x.hi) ∧ W.cell? ⟨b1, o1 + j * 7 + 2, none⟩ = some (.int .i64 x.y.lo) ∧ W.cell? ⟨b1, o1 + j * 7 + 3, none⟩ = some (.int .i64 x.y.hi) ∧ W.cell? ⟨b1, o1 + j * 7 + 4, none⟩ = some (.bool x.hail) ∧ W.cell? ⟨b1, o1 + j * 7 + 5, none⟩ = some (.int .i64 x.size.lo) ∧ W.cell? ⟨b1, o1 + j * 7 + 6, none⟩ = some (.int .i64 x.size.hi) ∧ Boxed2 w #[.int .i64 s.wide, .int .i64 s.high, .int .i64 s.fall, .int .i64 s.a.lo, .int .i64 s.a.hi, .int .i64 s.b.lo, .int .i64 s.b.hi, .int .i64 s.half.lo, .int .i64 s.half.hi, .int .i64 s.peak.lo, .int .i64 s.peak.hi, .slice (some ⟨b1, o1, none⟩) n c] 26 #[.int .i64 t.a, .int .i64 t.b, .int .i64 t.half, .int .i64 t.peak] 92 W := by
  have k := StoAt.of h.cell1
  have m := TruAt.of h.cell2
  obtain ⟨b, o, e, _, h0, h1, h2, h3, h4, h5, h6⟩ := (hc.below h.below).2 j x hx
  cases e
  exact ⟨k.c0, k.c1, k.c2, k.c3, k.c4, k.c5, k.c6, k.c7, k.c8, k.c9, k.c10, k.c11, m.c0, m.c1, m.c2, m.c3, h0, h1, h2, h3, h4, h5, h6, h⟩

def isTruB (s : Sto) (t : Tru) : Bool := truB s t && s.cards.all (fitsB s t)
theorem isTru_iff {s : Sto} {t : Tru} : isTruB s t = true ↔ t ∈ truthL s := by
  rw [truthL, List.mem_filter, mem_poss, isTruB, Bool.and_eq_true]

set_option maxRecDepth 20000 in
set_option maxHeartbeats 1000000 in
theorem isTruth_any (s : Sto) (p : Option Addr) (n c : Nat) (t : Tru) (w : World) (hcs : CrdsAt w p n s.cards) (ok : OkS s) :
    Calls Try.prog 56 #[.agg #[.int .i64 s.wide, .int .i64 s.high, .int .i64 s.fall, .int .i64 s.a.lo, .int .i64 s.a.hi, .int .i64 s.b.lo, .int .i64 s.b.hi, .int .i64 s.half.lo, .int .i64 s.half.hi, .int .i64 s.peak.lo, .int .i64 s.peak.hi, .slice p n c], .agg #[.int .i64 t.a, .int .i64 t.b, .int .i64 t.half, .int .i64 t.peak]] w fun e w' => e = .returned (.bool (isTruB s t)) ∧ Below w.heap.size w w' := by
  have HCS := hid hcs
  have HL := hid hcs.1
  have hn6 : n ≤ 6 := by rw [hcs.1]; exact ok.n6
  have OK := hid ok
  clear hcs ok
  have HF := hid (show isTruB s t = (inB t.a s.a.lo s.a.hi && (inB t.b s.b.lo s.b.hi && (inB t.half s.half.lo s.half.hi && inB t.peak s.peak.lo s.peak.hi)) && s.cards.all (fitsB s t)) from rfl)
  cases r0 : inB t.a s.a.lo s.a.hi
  · have HG : Hid (isTruB s t = false) := by show _ = _; rw [HF.out, r0]; simp
    go_enter Try.func56, Try.ntmps56
    go_wp2_with (go_at_call 24; refine (in_any _ _ _ _).mono ?_; rintro e w' ⟨rfl, rfl⟩)
    go_ret
    exact ⟨ret_bool HG.out.symm, ((Below.refl _ _).alloc (Nat.le_refl _) _).alloc (by simp) _⟩
  · skip
    cases r1 : inB t.b s.b.lo s.b.hi
    · have HG : Hid (isTruB s t = false) := by show _ = _; rw [HF.out, r0, r1]; simp
      go_enter Try.func56, Try.ntmps56
      go_wp2_with (go_at_call 24; refine (in_any _ _ _ _).mono ?_; rintro e w' ⟨rfl, rfl⟩)
      go_ret
      exact ⟨ret_bool HG.out.symm, ((Below.refl _ _).alloc (Nat.le_refl _) _).alloc (by simp) _⟩
    · skip
      cases r2 : inB t.half s.half.lo s.half.hi
      · have HG : Hid (isTruB s t = false) := by show _ = _; rw [HF.out, r0, r1, r2]; simp
        go_enter Try.func56, Try.ntmps56
        go_wp2_with (go_at_call 24; refine (in_any _ _ _ _).mono ?_; rintro e w' ⟨rfl, rfl⟩)
        go_ret
        exact ⟨ret_bool HG.out.symm, ((Below.refl _ _).alloc (Nat.le_refl _) _).alloc (by simp) _⟩
      · skip
        cases r3 : inB t.peak s.peak.lo s.peak.hi
        · have HG : Hid (isTruB s t = false) := by show _ = _; rw [HF.out, r0, r1, r2, r3]; simp
          go_enter Try.func56, Try.ntmps56
          go_wp2_with (go_at_call 24; refine (in_any _ _ _ _).mono ?_; rintro e w' ⟨rfl, rfl⟩)
          go_ret
          exact ⟨ret_bool HG.out.symm, ((Below.refl _ _).alloc (Nat.le_refl _) _).alloc (by simp) _⟩
        · skip
          have HT : Hid (truB s t = true) := by show _ = _; rw [truB, r0, r1, r2, r3]; rfl
          have HG : Hid (isTruB s t = s.cards.all (fitsB s t)) := by show _ = _; rw [HF.out, r0, r1, r2, r3]; simp
          go_enter Try.func56, Try.ntmps56
          go_wp2_with (go_at_call 24; refine (in_any _ _ _ _).mono ?_; rintro e w' ⟨rfl, rfl⟩)
          clear r0 r1 r2 r3
          go_loopw [5] (fun i wr => ∃ j : Nat, j ≤ n ∧ i = .int .i64 j ∧ (s.cards.drop j).all (fitsB s t) = s.cards.all (fitsB s t) ∧ Boxed2 w #[.int .i64 s.wide, .int .i64 s.high, .int .i64 s.fall, .int .i64 s.a.lo, .int .i64 s.a.hi, .int .i64 s.b.lo, .int .i64 s.b.hi, .int .i64 s.half.lo, .int .i64 s.half.hi, .int .i64 s.peak.lo, .int .i64 s.peak.hi, .slice p n c] 26 #[.int .i64 t.a, .int .i64 t.b, .int .i64 t.half, .int .i64 t.peak] 92 wr) (fun i _ => n - (intOf i).toNat)
          case atStart => exact ⟨0, by omega, rfl, rfl, Below.refl _ _⟩
          case round =>
            obtain ⟨j, hj, rfl, hr, HB⟩ := hrel
            have HR2 := hid hr
            clear hr
            have k11 := (StoAt.of HB.cell1).c11
            by_cases hlt : j < n
            · obtain ⟨x, hx, b1, o1, rfl, _⟩ := (HCS.out.below HB.below).at hlt
              have HD := hid (drop_at' hx)
              have HX := hid hx
              have HK := hid (OK.out.smallK (List.mem_of_getElem? hx))
              clear hx
              cases hc : fitsB s t x
              · have HF2 : Hid (isTruB s t = false) := by show _ = _; rw [HG.out, ← HR2.out, HD.out]; simp [hc]
                go_wp2_with fail
                go_region_held3 (fun W => W.cell? ⟨w.heap.size, 0, none⟩ = some (.int .i64 s.wide) ∧ W.cell? ⟨w.heap.size, 1, none⟩ = some (.int .i64 s.high) ∧ W.cell? ⟨w.heap.size, 2, none⟩ = some (.int .i64 s.fall) ∧ W.cell? ⟨w.heap.size, 3, none⟩ = some (.int .i64 s.a.lo) ∧ W.cell? ⟨w.heap.size, 4, none⟩ = some (.int .i64 s.a.hi) ∧ W.cell? ⟨w.heap.size, 5, none⟩ = some (.int .i64 s.b.lo) ∧ W.cell? ⟨w.heap.size, 6, none⟩ = some (.int .i64 s.b.hi) ∧ W.cell? ⟨w.heap.size, 7, none⟩ = some (.int .i64 s.half.lo) ∧ W.cell? ⟨w.heap.size, 8, none⟩ = some (.int .i64 s.half.hi) ∧ W.cell? ⟨w.heap.size, 9, none⟩ = some (.int .i64 s.peak.lo) ∧ W.cell? ⟨w.heap.size, 10, none⟩ = some (.int .i64 s.peak.hi) ∧ W.cell? ⟨w.heap.size, 11, none⟩ = some (.slice (some ⟨b1, o1, none⟩) n c) ∧ W.cell? ⟨w.heap.size + 1, 0, none⟩ = some (.int .i64 t.a) ∧ W.cell? ⟨w.heap.size + 1, 1, none⟩ = some (.int .i64 t.b) ∧ W.cell? ⟨w.heap.size + 1, 2, none⟩ = some (.int .i64 t.half) ∧ W.cell? ⟨w.heap.size + 1, 3, none⟩ = some (.int .i64 t.peak) ∧ W.cell? ⟨b1, o1 + j * 7, none⟩ = some (.int .i64 x.x.lo) ∧ W.cell? ⟨b1, o1 + j * 7 + 1, none⟩ = some (.int .i64 x.x.hi) ∧ W.cell? ⟨b1, o1 + j * 7 + 2, none⟩ = some (.int .i64 x.y.lo) ∧ W.cell? ⟨b1, o1 + j * 7 + 3, none⟩ = some (.int .i64 x.y.hi) ∧ W.cell? ⟨b1, o1 + j * 7 + 4, none⟩ = some (.bool x.hail) ∧ W.cell? ⟨b1, o1 + j * 7 + 5, none⟩ = some (.int .i64 x.size.lo) ∧ W.cell? ⟨b1, o1 + j * 7 + 6, none⟩ = some (.int .i64 x.size.hi) ∧ Boxed2 w #[.int .i64 s.wide, .int .i64 s.high, .int .i64 s.fall, .int .i64 s.a.lo, .int .i64 s.a.hi, .int .i64 s.b.lo, .int .i64 s.b.hi, .int .i64 s.half.lo, .int .i64 s.half.hi, .int .i64 s.peak.lo, .int .i64 s.peak.hi, .slice (some ⟨b1, o1, none⟩) n c] 26 #[.int .i64 t.a, .int .i64 t.b, .int .i64 t.half, .int .i64 t.peak] 92 W)
                  (first | exact card2_of HCS.out HX.out (by assumption) | exact card2_of HCS.out HX.out (Boxed2.drew (by assumption)))
                  ((go_at_call 87; go_split_ands; (with_reducible refine (right_any _ _ _ _ _ x _ OK.out.small (OK.out.smallT HT.out) HK.out).mono ?_); rintro e w5 ⟨rfl, hb⟩; have HB5 := Boxed2.step1 (by assumption) hb; clear hb))
                all_goals
                  go_wp2_with fail
                  go_ret
                  exact ⟨ret_bool HF2.out.symm, HB5.below⟩
              · have HF2 : Hid ((s.cards.drop (j + 1)).all (fitsB s t) = s.cards.all (fitsB s t)) := by show _ = _; rw [← HR2.out, HD.out]; simp [hc]
                go_wp2_with fail
                go_region_held3 (fun W => W.cell? ⟨w.heap.size, 0, none⟩ = some (.int .i64 s.wide) ∧ W.cell? ⟨w.heap.size, 1, none⟩ = some (.int .i64 s.high) ∧ W.cell? ⟨w.heap.size, 2, none⟩ = some (.int .i64 s.fall) ∧ W.cell? ⟨w.heap.size, 3, none⟩ = some (.int .i64 s.a.lo) ∧ W.cell? ⟨w.heap.size, 4, none⟩ = some (.int .i64 s.a.hi) ∧ W.cell? ⟨w.heap.size, 5, none⟩ = some (.int .i64 s.b.lo) ∧ W.cell? ⟨w.heap.size, 6, none⟩ = some (.int .i64 s.b.hi) ∧ W.cell? ⟨w.heap.size, 7, none⟩ = some (.int .i64 s.half.lo) ∧ W.cell? ⟨w.heap.size, 8, none⟩ = some (.int .i64 s.half.hi) ∧ W.cell? ⟨w.heap.size, 9, none⟩ = some (.int .i64 s.peak.lo) ∧ W.cell? ⟨w.heap.size, 10, none⟩ = some (.int .i64 s.peak.hi) ∧ W.cell? ⟨w.heap.size, 11, none⟩ = some (.slice (some ⟨b1, o1, none⟩) n c) ∧ W.cell? ⟨w.heap.size + 1, 0, none⟩ = some (.int .i64 t.a) ∧ W.cell? ⟨w.heap.size + 1, 1, none⟩ = some (.int .i64 t.b) ∧ W.cell? ⟨w.heap.size + 1, 2, none⟩ = some (.int .i64 t.half) ∧ W.cell? ⟨w.heap.size + 1, 3, none⟩ = some (.int .i64 t.peak) ∧ W.cell? ⟨b1, o1 + j * 7, none⟩ = some (.int .i64 x.x.lo) ∧ W.cell? ⟨b1, o1 + j * 7 + 1, none⟩ = some (.int .i64 x.x.hi) ∧ W.cell? ⟨b1, o1 + j * 7 + 2, none⟩ = some (.int .i64 x.y.lo) ∧ W.cell? ⟨b1, o1 + j * 7 + 3, none⟩ = some (.int .i64 x.y.hi) ∧ W.cell? ⟨b1, o1 + j * 7 + 4, none⟩ = some (.bool x.hail) ∧ W.cell? ⟨b1, o1 + j * 7 + 5, none⟩ = some (.int .i64 x.size.lo) ∧ W.cell? ⟨b1, o1 + j * 7 + 6, none⟩ = some (.int .i64 x.size.hi) ∧ Boxed2 w #[.int .i64 s.wide, .int .i64 s.high, .int .i64 s.fall, .int .i64 s.a.lo, .int .i64 s.a.hi, .int .i64 s.b.lo, .int .i64 s.b.hi, .int .i64 s.half.lo, .int .i64 s.half.hi, .int .i64 s.peak.lo, .int .i64 s.peak.hi, .slice (some ⟨b1, o1, none⟩) n c] 26 #[.int .i64 t.a, .int .i64 t.b, .int .i64 t.half, .int .i64 t.peak] 92 W)
                  (first | exact card2_of HCS.out HX.out (by assumption) | exact card2_of HCS.out HX.out (Boxed2.drew (by assumption)))
                  ((go_at_call 87; go_split_ands; (with_reducible refine (right_any _ _ _ _ _ x _ OK.out.small (OK.out.smallT HT.out) HK.out).mono ?_); rintro e w5 ⟨rfl, hb⟩; have HB5 := Boxed2.step1 (by assumption) hb; clear hb))
                all_goals
                  go_wp2_with fail
                  go_roundw
                  case rel => exact ⟨j + 1, by omega, by go_num, HF2.out, HB5⟩
                  case measure => simp [intOf]; omega
            · have r4 : Hid (isTruB s t = true) := by show _ = _; rw [HG.out, ← HR2.out, List.drop_of_length_le (by have := HL.out; omega)]; rfl
              go_wp2_with fail
              go_ret
              exact ⟨ret_bool r4.out.symm, HB.below⟩

/-- All cards, by bits. -/
def everyN (n : Nat) : Int := ((2 ^ n - 1 : Nat) : Int)

set_option maxRecDepth 20000 in
set_option maxHeartbeats 1000000 in
theorem every_any (s : Sto) (p : Option Addr) (n c : Nat) (w : World) (hn : n ≤ 9) :
    Calls Try.prog 44 #[.agg #[.int .i64 s.wide, .int .i64 s.high, .int .i64 s.fall, .int .i64 s.a.lo, .int .i64 s.a.hi, .int .i64 s.b.lo, .int .i64 s.b.hi, .int .i64 s.half.lo, .int .i64 s.half.hi, .int .i64 s.peak.lo, .int .i64 s.peak.hi, .slice p n c]] w fun e w' => e = .returned (.int .i64 (everyN n)) ∧ Below w.heap.size w w' := by
  obtain ⟨M, hM, h1, h2, h3⟩ := pow_facts hn
  have HF : Hid (everyN n = (M : Int) - 1) := by show _ = _; rw [everyN, hM]; omega
  have HM := hid hM
  clear hM
  go_enter Try.func44, Try.ntmps44
  go_wp2_with fail
  go_ret
  exact ⟨ret_int HF.out.symm, (Below.refl _ _).alloc (Nat.le_refl _) _⟩

theorem i64_and_nat (a b : Nat) (ha : a < 4096) (hb : b < 4096) : bits .and .i64 (a : Int) (b : Int) = ((a &&& b : Nat) : Int) := by
  have h : (a &&& b) ≤ a := Nat.and_le_left
  show IntKind.i64.wrap ((BitVec.ofInt 64 (a : Int) &&& BitVec.ofInt 64 (b : Int)).toNat : Int) = _
  rw [BitVec.toNat_and, ofInt_u64 a (by omega), ofInt_u64 b (by omega), IntWalk.i64_in _ (by omega)]

/-- Whether some of the sets have all of k (by bits). -/
def canN (all : List Nat) (k : Nat) : Bool := all.any fun a => decide (a &&& k = k)
def castL (all : List Nat) : List Int := all.map fun a : Nat => (a : Int)
theorem castL_get (all : List Nat) (i : Nat) : (castL all)[i]?.getD 0 = ((all[i]?.getD 0 : Nat) : Int) := by
  unfold castL
  rw [List.getElem?_map]
  cases all[i]? <;> rfl
theorem drop_nat (l : List Nat) (k : Nat) (h : k < l.length) : l.drop k = l[k]?.getD 0 :: l.drop (k + 1) := by
  rw [List.drop_eq_getElem_cons h]; simp [h]

set_option maxRecDepth 20000 in
set_option maxHeartbeats 1000000 in
theorem can_any (p : Option Addr) (n c : Nat) (all : List Nat) (k : Nat) (w : World) (hl : IntsAt w p n (castL all)) (hn : n ≤ 1000000) (ha : ∀ a ∈ all, a < 4096) (hk : k < 4096) :
    Calls Try.prog 89 #[.slice p n c, .int .i64 (k : Nat)] w fun e w' => e = .returned (.bool (canN all k)) ∧ w' = w := by
  have HL := hid hl
  have HN : Hid (n = all.length) := by show _ = _; rw [hl.1, castL, List.length_map]
  clear hl
  go_enter Try.func89, Try.ntmps89
  go_wp2
  go_loop [5] (fun i => ∃ (j : Nat), j ≤ n ∧ i = .int .i64 j ∧ (all.drop j).any (fun a => decide (a &&& k = k)) = canN all k) (fun i => n - (intOf i).toNat)
  case atStart => exact ⟨0, Nat.zero_le _, rfl, rfl⟩
  case round =>
    obtain ⟨j, hj, rfl, hr⟩ := hrel
    have HR := hid hr
    clear hr
    by_cases h1 : j < n
    · obtain ⟨b1, o1, rfl, hb1, hc1⟩ := HL.out.at h1
      rw [castL_get] at hc1
      have HD := hid (drop_nat all j (by have := HN.out; omega))
      have hz : all[j]?.getD 0 < 4096 := by
        have hj' : j < all.length := by have := HN.out; omega
        rw [List.getElem?_eq_getElem hj']
        exact ha _ (List.getElem_mem hj')
      have HA := hid ha
      clear ha
      obtain ⟨z, hzz⟩ : ∃ z, all[j]?.getD 0 = z := ⟨_, rfl⟩
      rw [hzz] at hc1 hz HD
      have HZ := hid hzz
      clear hzz
      have hand := i64_and_nat z k hz hk
      by_cases hx : z &&& k = k
      · have hx' : (((z &&& k : Nat) : Int) == (k : Int)) = true := by simp [hx]
        have HF : Hid (canN all k = true) := by show _ = _; rw [← HR.out, HD.out]; simp [hx]
        have HX := hid hx
        clear hx
        go_wp2
        go_ret
        exact ⟨ret_bool HF.out.symm, rfl⟩
      · have hx' : (((z &&& k : Nat) : Int) == (k : Int)) = false := by simp; omega
        have HF : Hid ((all.drop (j + 1)).any (fun a => decide (a &&& k = k)) = canN all k) := by show _ = _; rw [← HR.out, HD.out]; simp [hx]
        have HX := hid hx
        clear hx
        go_wp2
        go_round
        case rel => exact ⟨j + 1, by omega, by go_num, HF.out⟩
        case measure => simp [intOf]; omega
    · have HF : Hid (canN all k = false) := by
        show _ = _
        rw [← HR.out, List.drop_of_length_le (by have := HN.out; omega)]; rfl
      go_wp2
      go_ret
      exact ⟨ret_bool HF.out.symm, rfl⟩
end Go.Proofs.Ytfnefkenheglhaa
