/- The reference: which cards are right in each truth; all truths of a storm. No condition. -/
import Derived.Test.YtfnefkenheglhaaA9
namespace Go.Proofs.Ytfnefkenheglhaa
open Go.RowKit

/-- Whether a card, by its number, is right; all cards that are, by bits; these for each truth. -/
def fitN (s : Sto) (t : Tru) (i : Nat) : Bool := match s.cards[i]? with
  | some c => fitsB s t c
  | none => false
def rightN (s : Sto) (t : Tru) : Nat := numOf (fitN s t) s.cards.length
def allTo (s : Sto) (k : Nat) : List Nat := (List.range k).map fun m : Nat => rightN s (nthS s m)
def allR' (s : Sto) : List Nat := allTo s (manyS s).toNat

theorem allTo_succ (s : Sto) (k : Nat) : castL (allTo s (k + 1)) = castL (allTo s k) ++ [((rightN s (nthS s k) : Nat) : Int)] := by
  unfold castL allTo
  rw [List.range_succ]
  simp
theorem allTo_len (s : Sto) (k : Nat) : (castL (allTo s k)).length = k := by simp [castL, allTo]

theorem numOf_or {f : Nat → Bool} {j : Nat} (h : f j = true) : numOf f (j + 1) = numOf f j ||| 2 ^ j := by
  refine Nat.eq_of_testBit_eq fun p => ?_
  rw [Nat.testBit_or, numOf_bit, numOf_bit, Nat.testBit_two_pow]
  by_cases e : j = p
  · subst e; simp [h]
  · have : decide (p < j + 1) = decide (p < j) := by rw [decide_eq_decide]; omega
    simp [e, this]
theorem numOf_no {f : Nat → Bool} {j : Nat} (h : f j = false) : numOf f (j + 1) = numOf f j := by
  rw [numOf, h]; simp

set_option maxRecDepth 20000 in
set_option maxHeartbeats 1000000 in
theorem all_any (s : Sto) (p : Option Addr) (n c : Nat) (w : World) (hcs : CrdsAt w p n s.cards) (ok : OkS s) :
    Calls Try.prog 31 #[.agg #[.int .i64 s.wide, .int .i64 s.high, .int .i64 s.fall, .int .i64 s.a.lo, .int .i64 s.a.hi, .int .i64 s.b.lo, .int .i64 s.b.hi, .int .i64 s.half.lo, .int .i64 s.half.hi, .int .i64 s.peak.lo, .int .i64 s.peak.hi, .slice p n c]] w (RetInts w (castL (allR' s))) := by
  have HCS := hid hcs
  have HL := hid hcs.1
  have hn6 : n ≤ 6 := by rw [hcs.1]; exact ok.n6
  have HM := hid (fun W => many_any s p n c W ok.ranges ok.h12)
  have HN := hid (fun W (x : Nat) (hx : x ≤ 1000000) => nth_any s p n c (x : Int) W ok.ranges ok.h12 (by omega) (by omega))
  have hm1 : 0 ≤ manyS s := (many_mul ok.ranges ok.h12).2.2.2.2.1
  have hm2 := ok.many
  have OK := hid ok
  clear hcs ok
  obtain ⟨M, hM⟩ : ∃ M : Nat, manyS s = M := ⟨(manyS s).toNat, by rw [Int.toNat_of_nonneg hm1]⟩
  have HA : Hid (allR' s = allTo s M) := by show _ = _; rw [allR', hM]; rfl
  rw [hM] at hm2 HM
  have hM9 : M ≤ 2000 := by omega
  clear hm1 hm2
  have HMM := hid hM
  clear hM
  go_enter Try.func31, Try.ntmps31
  go_wp2
  go_loopw [3, 4] (fun v i wr => ∃ k : Nat, k ≤ M ∧ i = .int .i64 k ∧ OwnInts wr (w.heap.size + 1) v (castL (allTo s k)) ∧ Boxed1 w #[.int .i64 s.wide, .int .i64 s.high, .int .i64 s.fall, .int .i64 s.a.lo, .int .i64 s.a.hi, .int .i64 s.b.lo, .int .i64 s.b.hi, .int .i64 s.half.lo, .int .i64 s.half.hi, .int .i64 s.peak.lo, .int .i64 s.peak.hi, .slice p n c] 26 wr) (fun _ i _ => M - (intOf i).toNat)
  case atStart => exact ⟨0, by omega, rfl, ownInts_nil _ _, Boxed1.start _ _ _⟩
  case round =>
    obtain ⟨k, hk, rfl, hown, HB⟩ := hrel
    have k0 := (StoAt.of HB.cell).c0
    have k1 := (StoAt.of HB.cell).c1
    have k2 := (StoAt.of HB.cell).c2
    have k3 := (StoAt.of HB.cell).c3
    have k4 := (StoAt.of HB.cell).c4
    have k5 := (StoAt.of HB.cell).c5
    have k6 := (StoAt.of HB.cell).c6
    have k7 := (StoAt.of HB.cell).c7
    have k8 := (StoAt.of HB.cell).c8
    have k9 := (StoAt.of HB.cell).c9
    have k10 := (StoAt.of HB.cell).c10
    have k11 := (StoAt.of HB.cell).c11
    go_wp2_with fail
    (with_reducible refine (HM.out _).mono ?_)
    rintro e w1 ⟨rfl, hb⟩
    have HB1 := HB.step hb
    have ho1 := hown.below hb
    clear k0 k1 k2 k3 k4 k5 k6 k7 k8 k9 k10 k11 hb HB hown
    by_cases hlt : k < M
    · have HS := hid (allTo_succ s k)
      have hal : (castL (allTo s k)).length ≤ 1000000 := by rw [allTo_len]; omega
      have HAL := hid hal
      clear hal
      obtain ⟨t, ht⟩ : ∃ t, nthS s k = t := ⟨_, rfl⟩
      have HT : Hid (truB s t = true) := by
        show _ = _
        rw [← ht]
        exact (num_nth OK.out.pos (Int.natCast_nonneg k) (by have := HMM.out; omega)).1
      have HN2 := hid (fun W => HN.out W k (by omega))
      rw [ht] at HN2 HS
      have HTT := hid ht
      clear ht
      go_wp2_with fail
      obtain ⟨wo, rfl⟩ : ∃ wo : World, wo = w1 := ⟨_, rfl⟩
      go_loopw [5, 6] (fun b i wr => ∃ j : Nat, j ≤ n ∧ i = .int .i64 j ∧ b = .int .i64 ((numOf (fitN s t) j : Nat) : Int) ∧ OwnInts wr (w.heap.size + 1) u3 (castL (allTo s k)) ∧ Boxed1 w #[.int .i64 s.wide, .int .i64 s.high, .int .i64 s.fall, .int .i64 s.a.lo, .int .i64 s.a.hi, .int .i64 s.b.lo, .int .i64 s.b.hi, .int .i64 s.half.lo, .int .i64 s.half.hi, .int .i64 s.peak.lo, .int .i64 s.peak.hi, .slice p n c] 26 wr) (fun _ i _ => n - (intOf i).toNat)
      case atStart => exact ⟨0, by omega, rfl, rfl, ho1, HB1⟩
      case round =>
        clear HB1 ho1
        obtain ⟨j, hj, rfl, rfl, hown, HB⟩ := hrel
        have k11 := (StoAt.of HB.cell).c11
        by_cases hltj : j < n
        · obtain ⟨x, hx, b1, o1, rfl, _⟩ := (HCS.out.below HB.below).at hltj
          have HX := hid hx
          have HK := hid (OK.out.smallK (List.mem_of_getElem? hx))
          have HFX : Hid (fitN s t j = fitsB s t x) := by show _ = _; rw [fitN, hx]
          clear hx
          have hown' : OwnInts wr.drew (w.heap.size + 1) u3 (castL (allTo s k)) := hown
          have hz : numOf (fitN s t) j < 4096 := Nat.lt_of_lt_of_le (numOf_lt _ _) (Nat.le_trans (Nat.pow_le_pow_right (by decide) (show j ≤ 12 by omega)) (by decide))
          cases hc : fitsB s t x
          all_goals
            have HC := hid hc
            clear hc
            go_wp2_with fail
            go_region_held3 (fun W => W.cell? ⟨w.heap.size, 0, none⟩ = some (.int .i64 s.wide) ∧ W.cell? ⟨w.heap.size, 1, none⟩ = some (.int .i64 s.high) ∧ W.cell? ⟨w.heap.size, 2, none⟩ = some (.int .i64 s.fall) ∧ W.cell? ⟨w.heap.size, 3, none⟩ = some (.int .i64 s.a.lo) ∧ W.cell? ⟨w.heap.size, 4, none⟩ = some (.int .i64 s.a.hi) ∧ W.cell? ⟨w.heap.size, 5, none⟩ = some (.int .i64 s.b.lo) ∧ W.cell? ⟨w.heap.size, 6, none⟩ = some (.int .i64 s.b.hi) ∧ W.cell? ⟨w.heap.size, 7, none⟩ = some (.int .i64 s.half.lo) ∧ W.cell? ⟨w.heap.size, 8, none⟩ = some (.int .i64 s.half.hi) ∧ W.cell? ⟨w.heap.size, 9, none⟩ = some (.int .i64 s.peak.lo) ∧ W.cell? ⟨w.heap.size, 10, none⟩ = some (.int .i64 s.peak.hi) ∧ W.cell? ⟨w.heap.size, 11, none⟩ = some (.slice (some ⟨b1, o1, none⟩) n c) ∧ W.cell? ⟨b1, o1 + j * 7, none⟩ = some (.int .i64 x.x.lo) ∧ W.cell? ⟨b1, o1 + j * 7 + 1, none⟩ = some (.int .i64 x.x.hi) ∧ W.cell? ⟨b1, o1 + j * 7 + 2, none⟩ = some (.int .i64 x.y.lo) ∧ W.cell? ⟨b1, o1 + j * 7 + 3, none⟩ = some (.int .i64 x.y.hi) ∧ W.cell? ⟨b1, o1 + j * 7 + 4, none⟩ = some (.bool x.hail) ∧ W.cell? ⟨b1, o1 + j * 7 + 5, none⟩ = some (.int .i64 x.size.lo) ∧ W.cell? ⟨b1, o1 + j * 7 + 6, none⟩ = some (.int .i64 x.size.hi) ∧ Boxed1 w #[.int .i64 s.wide, .int .i64 s.high, .int .i64 s.fall, .int .i64 s.a.lo, .int .i64 s.a.hi, .int .i64 s.b.lo, .int .i64 s.b.hi, .int .i64 s.half.lo, .int .i64 s.half.hi, .int .i64 s.peak.lo, .int .i64 s.peak.hi, .slice (some ⟨b1, o1, none⟩) n c] 26 W)
              (first | exact card_of HCS.out HX.out (by assumption) | exact card_of HCS.out HX.out (Boxed1.drew (by assumption)))
              (first | (go_at_call 88; go_split_ands; (with_reducible refine (HN2.out _).mono ?_); rintro e w2 ⟨rfl, hb⟩; have HB2 := Boxed1.step (by assumption) hb; have ho2 := OwnInts.below ‹OwnInts _ _ u3 _› hb; clear hb) | (go_at_call 87; go_split_ands; (with_reducible refine (right_any _ _ _ _ t x _ OK.out.small (OK.out.smallT HT.out) HK.out).mono ?_); rintro e w3 ⟨rfl, hb⟩; have HB3 := Boxed1.step (by assumption) hb; have ho3 := OwnInts.below ‹OwnInts _ _ u3 _› hb; clear hb))
            rw [HC.out]
          · go_wp2_with fail
            go_roundw
            case rel => exact ⟨j + 1, by omega, by go_num, by rw [numOf_no (by rw [HFX.out, HC.out])], ho3, HB3⟩
            case measure => simp [intOf]; omega
          · obtain ⟨N, hN, hN1, hN2, hN3⟩ := pow_facts (show j ≤ 9 by omega)
            have HNN := hid hN
            clear hN
            have hor := i64_or_nat (numOf (fitN s t) j) N hz (by omega)
            have HO : Hid (numOf (fitN s t) (j + 1) = numOf (fitN s t) j ||| N) := by show _ = _; rw [numOf_or (by rw [HFX.out, HC.out]), HNN.out]
            go_wp2_with fail
            go_roundw
            case rel => exact ⟨j + 1, by omega, by go_num, by rw [HO.out], ho3, HB3⟩
            case measure => simp [intOf]; omega
        · have hjn : j = n := by omega
          have HR : Hid (numOf (fitN s t) j = rightN s t) := by show _ = _; rw [hjn, rightN, HL.out]
          have hal' := HAL.out
          clear hjn
          go_wp2_with (at_builtin; refine append_int (by rfl) _ _ (by rfl) (w.heap.size + 1) _ (castL (allTo s k)) _ hown (by rfl) (by rfl) hal' HB.size ?_; intro v' w' ho' hb'; have HB' := HB.step' hb')
          go_roundw
          case rel => exact ⟨k + 1, by omega, by go_num, by rw [HS.out, ← HR.out]; exact ho', HB'⟩
          case measure => simp [intOf]; omega
    · have hkM : k = M := by omega
      have HF : Hid (castL (allTo s k) = castL (allR' s)) := by show _ = _; rw [hkM, HA.out]
      clear hkM
      go_wp2
      go_ret
      exact ⟨_, rfl, HF.out ▸ ho1.mono (by omega), HB1.below⟩
end Go.Proofs.Ytfnefkenheglhaa
