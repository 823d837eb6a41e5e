/- The reference: all truths of a storm. No condition. -/
import Derived.Test.YtfnefkenheglhaaA10
import Derived.Test.YtfnefkenheglhaaRow
namespace Go.Proofs.Ytfnefkenheglhaa
open Go.RowKit

/-- All truths of a storm, in the reference's order. -/
def truTo (s : Sto) (k : Nat) : List Tru := ((List.range k).map fun m : Nat => nthS s m).filter fun t => s.cards.all (fitsB s t)
def truR (s : Sto) : List Tru := truTo s (manyS s).toNat
theorem truTo_succ (s : Sto) (k : Nat) : truTo s (k + 1) = truTo s k ++ if s.cards.all (fitsB s (nthS s k)) = true then [nthS s k] else [] := by
  unfold truTo
  rw [List.range_succ, List.map_append, List.filter_append]
  simp only [List.map_cons, List.map_nil, List.filter_cons, List.filter_nil]
theorem truTo_len (s : Sto) (k : Nat) : (truTo s k).length ≤ k := by
  have := List.length_filter_le (fun t => s.cards.all (fitsB s t)) ((List.range k).map fun m : Nat => nthS s m)
  simpa [truTo] using this
theorem truR_perm {s : Sto} (hp : Pos s) : (truR s).Perm (truthL s) := (all_perm hp).filter _
theorem numOf_all {f : Nat → Bool} {n : Nat} : numOf f n = 2 ^ n - 1 ↔ ∀ i, i < n → f i = true := by
  constructor
  · intro h i hi
    have h1 := numOf_bit f n i
    rw [h, Nat.testBit_two_pow_sub_one] at h1
    simpa [hi] using h1.symm
  · intro h
    refine Nat.eq_of_testBit_eq fun p => ?_
    rw [numOf_bit, Nat.testBit_two_pow_sub_one]
    by_cases hp : p < n
    · simp [hp, h p hp]
    · simp [hp]
theorem right_every (s : Sto) (t : Tru) : (((rightN s t : Nat) : Int) == everyN s.cards.length) = s.cards.all (fitsB s t) := by
  rw [Bool.eq_iff_iff, beq_iff_eq, everyN, Int.ofNat_inj, rightN, numOf_all, List.all_eq_true]
  constructor
  · intro h c hc
    obtain ⟨i, hi, rfl⟩ := List.getElem_of_mem hc
    have := h i hi
    rwa [fitN, List.getElem?_eq_getElem hi] at this
  · intro h i hi
    rw [fitN, List.getElem?_eq_getElem hi]
    exact h _ (List.getElem_mem hi)
def RetTrus (T : TypeId) (w : World) (l : List Tru) (e : Ending) (w' : World) : Prop := ∃ v, e = .returned v ∧ OwnRows cellsT 4 T w' w.heap.size v l ∧ Below w.heap.size w w'
theorem castL_at (s : Sto) {k M : Nat} (h : k < M) : (castL (allTo s M))[k]?.getD 0 = ((rightN s (nthS s k) : Nat) : Int) := by
  rw [castL_get, allTo]
  simp [h]

theorem int_of {w W : World} {s : Sto} {p : Option Addr} {n c : Nat} {T : TypeId} {wb : World} {b1 o1 k n3 : Nat} {l : List Int} (hi : IntsAt wb (some ⟨b1, o1, none⟩) n3 l) (hk : k < n3) (hb : Below wb.heap.size wb W) (h : Boxed1 w #[.int .i64 s.wide, .int .i64 s.high, .int .i64 s.fall, .int .i64 s.a.lo, .int .i64 s.a.hi, .int .i64 s.b.lo, .int .i64 s.b.hi, .int .i64 s.half.lo, .int .i64 s.half.hi, .int .i64 s.peak.lo, .int .i64 s.peak.hi, .slice p n c] T W) :
    W.cell? ⟨w.heap.size, 0, none⟩ = some (.int .i64 s.wide) ∧ W.cell? ⟨w.heap.size, 1, none⟩ = some (.int .i64 s.high) ∧ W.cell? ⟨w.heap.size, 2, none⟩ = some (.int .i64 s.fall) ∧ W.cell? ⟨w.heap.size, 3, none⟩ = some (.int .i64 s.a.lo) ∧ W.cell? ⟨w.heap.size, 4, none⟩ = some (.int .i64 s.a.hi) ∧ W.cell? ⟨w.heap.size, 5, none⟩ = some (.int .i64 s.b.lo) ∧ W.cell? ⟨w.heap.size, 6, none⟩ = some (.int .i64 s.b.hi) ∧ W.cell? ⟨w.heap.size, 7, none⟩ = some (.int .i64 s.half.lo) ∧ W.cell? ⟨w.heap.size, 8, none⟩ = some (.int .i64 s.half.hi) ∧ W.cell? ⟨w.heap.size, 9, none⟩ = some (.int .i64 s.peak.lo) ∧ W.cell? ⟨w.heap.size, 10, none⟩ = some (.int .i64 s.peak.hi) ∧ W.cell? ⟨w.heap.size, 11, none⟩ = some (.slice p n c) ∧ W.cell? ⟨b1, o1 + k, none⟩ = some (.int .i64 (l[k]?.getD 0)) ∧ Below wb.heap.size wb W ∧ Boxed1 w #[.int .i64 s.wide, .int .i64 s.high, .int .i64 s.fall, .int .i64 s.a.lo, .int .i64 s.a.hi, .int .i64 s.b.lo, .int .i64 s.b.hi, .int .i64 s.half.lo, .int .i64 s.half.hi, .int .i64 s.peak.lo, .int .i64 s.peak.hi, .slice p n c] T W := by
  have z := StoAt.of h.cell
  obtain ⟨b, o, e, h1⟩ := (hi.below hb).2 k hk
  cases e
  exact ⟨z.c0, z.c1, z.c2, z.c3, z.c4, z.c5, z.c6, z.c7, z.c8, z.c9, z.c10, z.c11, h1, hb, h⟩

set_option maxRecDepth 20000 in
set_option maxHeartbeats 1000000 in
theorem truths_any (s : Sto) (p : Option Addr) (n c : Nat) (w : World) (hcs : CrdsAt w p n s.cards) (ok : OkS s) :
    Calls Try.prog 49 #[.agg #[.int .i64 s.wide, .int .i64 s.high, .int .i64 s.fall, .int .i64 s.a.lo, .int .i64 s.a.hi, .int .i64 s.b.lo, .int .i64 s.b.hi, .int .i64 s.half.lo, .int .i64 s.half.hi, .int .i64 s.peak.lo, .int .i64 s.peak.hi, .slice p n c]] w (RetTrus 92 w (truR s)) := by
  have HL := hid hcs.1
  have hn6 : n ≤ 6 := by rw [hcs.1]; exact ok.n6
  have HAL := hid (fun W (hW : Below w.heap.size w W) => all_any s p n c W (hcs.below hW) ok)
  have HE := hid (fun W => every_any s p n c W (by omega))
  have HN := hid (fun W (x : Nat) (hx : x ≤ 1000000) => nth_any s p n c (x : Int) W ok.ranges ok.h12 (by omega) (by omega))
  have hm1 : 0 ≤ manyS s := (many_mul ok.ranges ok.h12).2.2.2.2.1
  have hm2 := ok.many
  clear hcs ok
  obtain ⟨M, hM⟩ : ∃ M : Nat, manyS s = M := ⟨(manyS s).toNat, by rw [Int.toNat_of_nonneg hm1]⟩
  have HA : Hid (allR' s = allTo s M) := by show _ = _; rw [allR', hM]; rfl
  have HT : Hid (truR s = truTo s M) := by show _ = _; rw [truR, hM]; rfl
  rw [hM] at hm2
  have hM9 : M ≤ 2000 := by omega
  clear hm1 hm2 hM
  go_enter Try.func49, Try.ntmps49
  go_wp2_with fail
  (with_reducible refine (HAL.out _ ?_).mono ?_)
  · exact (Below.refl _ _).alloc (Nat.le_refl _) _
  rintro e wa ⟨v, rfl, hown, hb⟩
  have HBa : Boxed1 w #[.int .i64 s.wide, .int .i64 s.high, .int .i64 s.fall, .int .i64 s.a.lo, .int .i64 s.a.hi, .int .i64 s.b.lo, .int .i64 s.b.hi, .int .i64 s.half.lo, .int .i64 s.half.hi, .int .i64 s.peak.lo, .int .i64 s.peak.hi, .slice p n c] 26 wa := hb.mono (by simp)
  obtain ⟨p3, c3, rfl, hi3⟩ := hown.slice
  have hz : (castL (allR' s)).length = M := by rw [HA.out, allTo_len]
  rw [hz] at hi3
  rw [hz]
  have HI3 := hid hi3
  clear hz hi3 hown hb
  go_wp2_with fail
  go_loopw [4, 5] (fun v i wr => ∃ k : Nat, k ≤ M ∧ i = .int .i64 k ∧ OwnRows cellsT 4 92 wr wa.heap.size v (truTo s k) ∧ Below wa.heap.size wa wr ∧ Boxed1 w #[.int .i64 s.wide, .int .i64 s.high, .int .i64 s.fall, .int .i64 s.a.lo, .int .i64 s.a.hi, .int .i64 s.b.lo, .int .i64 s.b.hi, .int .i64 s.half.lo, .int .i64 s.half.hi, .int .i64 s.peak.lo, .int .i64 s.peak.hi, .slice p n c] 26 wr) (fun _ i _ => M - (intOf i).toNat)
  case atStart => exact ⟨0, by omega, rfl, ownRows_nil _ _ _ _ _, Below.refl _ _, HBa⟩
  case round =>
    obtain ⟨k, hk, rfl, hown, hba, HB⟩ := hrel
    by_cases hlt : k < M
    · obtain ⟨b1, o1, rfl, hb1, hc1⟩ := (HI3.out.below hba).at hlt
      have HS := hid (truTo_succ s k)
      have HLE := hid (truTo_len s k)
      have HRE : Hid ((((rightN s (nthS s k) : Nat) : Int) == everyN n) = s.cards.all (fitsB s (nthS s k))) := by show _ = _; rw [HL.out]; exact right_every s (nthS s k)
      have HCI : Hid ((castL (allR' s))[k]?.getD 0 = ((rightN s (nthS s k) : Nat) : Int)) := by show _ = _; rw [HA.out]; exact castL_at s hlt
      rw [HCI.out] at hc1
      have HI4 := hid (fun W (hb : Below wa.heap.size wa W) (h : Boxed1 w #[.int .i64 s.wide, .int .i64 s.high, .int .i64 s.fall, .int .i64 s.a.lo, .int .i64 s.a.hi, .int .i64 s.b.lo, .int .i64 s.b.hi, .int .i64 s.half.lo, .int .i64 s.half.hi, .int .i64 s.peak.lo, .int .i64 s.peak.hi, .slice p n c] 26 W) => int_of (T := 26) HI3.out hlt hb h)
      rw [HCI.out] at HI4
      have hown' : OwnRows cellsT 4 92 wr.drew wa.heap.size u4 (truTo s k) := hown
      cases hf : s.cards.all (fitsB s (nthS s k))
      all_goals
        have HF := hid hf
        clear hf
        rw [HF.out] at HRE
        have hre := HRE.out
        go_wp2_with fail
        go_region_held3 (fun W => W.cell? ⟨w.heap.size, 0, none⟩ = some (.int .i64 s.wide) ∧ W.cell? ⟨w.heap.size, 1, none⟩ = some (.int .i64 s.high) ∧ W.cell? ⟨w.heap.size, 2, none⟩ = some (.int .i64 s.fall) ∧ W.cell? ⟨w.heap.size, 3, none⟩ = some (.int .i64 s.a.lo) ∧ W.cell? ⟨w.heap.size, 4, none⟩ = some (.int .i64 s.a.hi) ∧ W.cell? ⟨w.heap.size, 5, none⟩ = some (.int .i64 s.b.lo) ∧ W.cell? ⟨w.heap.size, 6, none⟩ = some (.int .i64 s.b.hi) ∧ W.cell? ⟨w.heap.size, 7, none⟩ = some (.int .i64 s.half.lo) ∧ W.cell? ⟨w.heap.size, 8, none⟩ = some (.int .i64 s.half.hi) ∧ W.cell? ⟨w.heap.size, 9, none⟩ = some (.int .i64 s.peak.lo) ∧ W.cell? ⟨w.heap.size, 10, none⟩ = some (.int .i64 s.peak.hi) ∧ W.cell? ⟨w.heap.size, 11, none⟩ = some (.slice p n c) ∧ W.cell? ⟨b1, o1 + k, none⟩ = some (.int .i64 ((rightN s (nthS s k) : Nat) : Int)) ∧ Below wa.heap.size wa W ∧ Boxed1 w #[.int .i64 s.wide, .int .i64 s.high, .int .i64 s.fall, .int .i64 s.a.lo, .int .i64 s.a.hi, .int .i64 s.b.lo, .int .i64 s.b.hi, .int .i64 s.half.lo, .int .i64 s.half.hi, .int .i64 s.peak.lo, .int .i64 s.peak.hi, .slice p n c] 26 W)
          (first | exact HI4.out _ (by assumption) (by assumption) | exact HI4.out _ (Below.drew (by assumption)) (Boxed1.drew (by assumption)))
          ((go_at_call 44; go_split_ands; (with_reducible refine (HE.out _).mono ?_); rintro e w2 ⟨rfl, hb⟩; have HB2 := Boxed1.step (by assumption) hb; have hba2 := Below.trans ‹Below wa.heap.size wa _› (hb.mono (Below.size ‹Below wa.heap.size wa _›)); have ho2 := OwnRows.below ‹OwnRows _ _ _ _ _ u4 _› hb; clear hb))
        clear hre
      · go_wp2_with fail
        go_roundw
        case rel => exact ⟨k + 1, by omega, by go_num, by rw [HS.out, HF.out]; simpa using ho2, hba2, HB2⟩
        case measure => simp [intOf]; omega
      · obtain ⟨t, ht⟩ : ∃ t, nthS s k = t := ⟨_, rfl⟩
        have HN2 := hid (fun W => HN.out W k (by omega))
        rw [ht] at HS HF HN2
        have hsz2 := HB2.size
        have k0 := (StoAt.of HB2.cell).c0
        have k1 := (StoAt.of HB2.cell).c1
        have k2 := (StoAt.of HB2.cell).c2
        have k3 := (StoAt.of HB2.cell).c3
        have k4 := (StoAt.of HB2.cell).c4
        have k5 := (StoAt.of HB2.cell).c5
        have k6 := (StoAt.of HB2.cell).c6
        have k7 := (StoAt.of HB2.cell).c7
        have k8 := (StoAt.of HB2.cell).c8
        have k9 := (StoAt.of HB2.cell).c9
        have k10 := (StoAt.of HB2.cell).c10
        have k11 := (StoAt.of HB2.cell).c11
        go_wp2_with fail
        (with_reducible refine (HN2.out _).mono ?_)
        rintro e w3 ⟨rfl, hb⟩
        have HB3 := HB2.step hb
        have hba3 := hba2.trans (hb.mono hba2.size)
        have ho3 := (ho2.below hb).below ((Below.refl _ _).alloc (Nat.le_refl _) (.cells #[.int .i64 t.a, .int .i64 t.b, .int .i64 t.half, .int .i64 t.peak] 92))
        clear hb k0 k1 k2 k3 k4 k5 k6 k7 k8 k9 k10 k11
        have hsz3 := hba3.size
        have hle : (truTo s k).length ≤ 1000000 := by have := HLE.out; omega
        go_wp2_with (at_builtin; refine append_rows cellsT_len (by decide) cellsT_one 39 92 _ 32 (by decide) Try.info92 rfl Try.und39 (by rfl) _ _ (by rfl) wa.heap.size _ _ _ 1 1 [t] ho3 (by rfl) (by rfl) (tru_lit t 92) hle (by omega) (by simp; omega) ?_; intro v' w' h1 h2 h3)
        have HB4 : Boxed1 w #[.int .i64 s.wide, .int .i64 s.high, .int .i64 s.fall, .int .i64 s.a.lo, .int .i64 s.a.hi, .int .i64 s.b.lo, .int .i64 s.b.hi, .int .i64 s.half.lo, .int .i64 s.half.hi, .int .i64 s.peak.lo, .int .i64 s.peak.hi, .slice p n c] 26 w' := (HB3.alloc _).step' (h2.mono HBa.size)
        have hba4 : Below wa.heap.size wa w' := (hba3.alloc hba3.size (.cells #[.int .i64 t.a, .int .i64 t.b, .int .i64 t.half, .int .i64 t.peak] 92)).trans h2
        go_roundw
        case rel => exact ⟨k + 1, by omega, by go_num, by rw [HS.out, HF.out]; exact h1, hba4, HB4⟩
        case measure => simp [intOf]; omega
    · have hkM : k = M := by omega
      have HF : Hid (truTo s k = truR s) := by show _ = _; rw [hkM, HT.out]
      clear hkM
      go_wp2
      go_ret
      exact ⟨_, rfl, HF.out ▸ hown.mono (by have := HBa.size; omega), HB.below⟩
end Go.Proofs.Ytfnefkenheglhaa
