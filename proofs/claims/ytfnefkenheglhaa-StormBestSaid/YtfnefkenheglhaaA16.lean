/- The reference: all truths of a storm that may have one card too many. No condition but small ranges and cards. -/
import Derived.Test.YtfnefkenheglhaaA11
namespace Go.Proofs.Ytfnefkenheglhaa
open Go.RowKit

/-- A storm without an error, but for a card too many. -/
structure OkR (s : Sto) : Prop where
  ranges : rangesB s = true
  h12 : s.high ≤ 12
  many : manyS s ≤ 2000
  pos : Pos s
  small : SmallS s
  smallT : ∀ {t : Tru}, truB s t = true → SmallT t
  smallK : ∀ {k : Crd}, k ∈ s.cards → SmallK k
  n7 : s.cards.length ≤ 7

set_option maxRecDepth 20000 in
set_option maxHeartbeats 1000000 in
theorem all7_any (s : Sto) (p : Option Addr) (n c : Nat) (w : World) (hcs : CrdsAt w p n s.cards) (ok : OkR s) :
    Calls Try.prog 31 #[.agg #[.int .i64 s.wide, .int .i64 s.high, .int .i64 s.fall, .int .i64 s.a.lo, .int .i64 s.a.hi, .int .i64 s.b.lo, .int .i64 s.b.hi, .int .i64 s.half.lo, .int .i64 s.half.hi, .int .i64 s.peak.lo, .int .i64 s.peak.hi, .slice p n c]] w (RetInts w (castL (allR' s))) := by
  have HCS := hid hcs
  have HL := hid hcs.1
  have hn6 : n ≤ 7 := by rw [hcs.1]; exact ok.n7
  have HM := hid (fun W => many_any s p n c W ok.ranges ok.h12)
  have HN := hid (fun W (x : Nat) (hx : x ≤ 1000000) => nth_any s p n c (x : Int) W ok.ranges ok.h12 (by omega) (by omega))
  have hm1 : 0 ≤ manyS s := (many_mul ok.ranges ok.h12).2.2.2.2.1
  have hm2 := ok.many
  have OK := hid ok
  clear hcs ok
  obtain ⟨M, hM⟩ : ∃ M : Nat, manyS s = M := ⟨(manyS s).toNat, by rw [Int.toNat_of_nonneg hm1]⟩
  have HA : Hid (allR' s = allTo s M) := by show _ = _; rw [allR', hM]; rfl
  rw [hM] at hm2 HM
  have hM9 : M ≤ 2000 := by omega
  clear hm1 hm2
  have HMM := hid hM
  clear hM
  go_enter Try.func31, Try.ntmps31
  go_wp2
  go_loopw [3, 4] (fun v i wr => ∃ k : Nat, k ≤ M ∧ i = .int .i64 k ∧ OwnInts wr (w.heap.size + 1) v (castL (allTo s k)) ∧ Boxed1 w #[.int .i64 s.wide, .int .i64 s.high, .int .i64 s.fall, .int .i64 s.a.lo, .int .i64 s.a.hi, .int .i64 s.b.lo, .int .i64 s.b.hi, .int .i64 s.half.lo, .int .i64 s.half.hi, .int .i64 s.peak.lo, .int .i64 s.peak.hi, .slice p n c] 26 wr) (fun _ i _ => M - (intOf i).toNat)
  case atStart => exact ⟨0, by omega, rfl, ownInts_nil _ _, Boxed1.start _ _ _⟩
  case round =>
    obtain ⟨k, hk, rfl, hown, HB⟩ := hrel
    have k0 := (StoAt.of HB.cell).c0
    have k1 := (StoAt.of HB.cell).c1
    have k2 := (StoAt.of HB.cell).c2
    have k3 := (StoAt.of HB.cell).c3
    have k4 := (StoAt.of HB.cell).c4
    have k5 := (StoAt.of HB.cell).c5
    have k6 := (StoAt.of HB.cell).c6
    have k7 := (StoAt.of HB.cell).c7
    have k8 := (StoAt.of HB.cell).c8
    have k9 := (StoAt.of HB.cell).c9
    have k10 := (StoAt.of HB.cell).c10
    have k11 := (StoAt.of HB.cell).c11
    go_wp2_with fail
    (with_reducible refine (HM.out _).mono ?_)
    rintro e w1 ⟨rfl, hb⟩
    have HB1 := HB.step hb
    have ho1 := hown.below hb
    clear k0 k1 k2 k3 k4 k5 k6 k7 k8 k9 k10 k11 hb HB hown
    by_cases hlt : k < M
    · have HS := hid (allTo_succ s k)
      have hal : (castL (allTo s k)).length ≤ 1000000 := by rw [allTo_len]; omega
      have HAL := hid hal
      clear hal
      obtain ⟨t, ht⟩ : ∃ t, nthS s k = t := ⟨_, rfl⟩
      have HT : Hid (truB s t = true) := by
        show _ = _
        rw [← ht]
        exact (num_nth OK.out.pos (Int.natCast_nonneg k) (by have := HMM.out; omega)).1
      have HN2 := hid (fun W => HN.out W k (by omega))
      rw [ht] at HN2 HS
      have HTT := hid ht
      clear ht
      go_wp2_with fail
      obtain ⟨wo, rfl⟩ : ∃ wo : World, wo = w1 := ⟨_, rfl⟩
      go_loopw [5, 6] (fun b i wr => ∃ j : Nat, j ≤ n ∧ i = .int .i64 j ∧ b = .int .i64 ((numOf (fitN s t) j : Nat) : Int) ∧ OwnInts wr (w.heap.size + 1) u3 (castL (allTo s k)) ∧ Boxed1 w #[.int .i64 s.wide, .int .i64 s.high, .int .i64 s.fall, .int .i64 s.a.lo, .int .i64 s.a.hi, .int .i64 s.b.lo, .int .i64 s.b.hi, .int .i64 s.half.lo, .int .i64 s.half.hi, .int .i64 s.peak.lo, .int .i64 s.peak.hi, .slice p n c] 26 wr) (fun _ i _ => n - (intOf i).toNat)
      case atStart => exact ⟨0, by omega, rfl, rfl, ho1, HB1⟩
      case round =>
        clear HB1 ho1
        obtain ⟨j, hj, rfl, rfl, hown, HB⟩ := hrel
        have k11 := (StoAt.of HB.cell).c11
        by_cases hltj : j < n
        · obtain ⟨x, hx, b1, o1, rfl, _⟩ := (HCS.out.below HB.below).at hltj
          have HX := hid hx
          have HK := hid (OK.out.smallK (List.mem_of_getElem? hx))
          have HFX : Hid (fitN s t j = fitsB s t x) := by show _ = _; rw [fitN, hx]
          clear hx
          have hown' : OwnInts wr.drew (w.heap.size + 1) u3 (castL (allTo s k)) := hown
          have hz : numOf (fitN s t) j < 4096 := Nat.lt_of_lt_of_le (numOf_lt _ _) (Nat.le_trans (Nat.pow_le_pow_right (by decide) (show j ≤ 12 by omega)) (by decide))
          cases hc : fitsB s t x
          all_goals
            have HC := hid hc
            clear hc
            go_wp2_with fail
            go_region_held3 (fun W => W.cell? ⟨w.heap.size, 0, none⟩ = some (.int .i64 s.wide) ∧ W.cell? ⟨w.heap.size, 1, none⟩ = some (.int .i64 s.high) ∧ W.cell? ⟨w.heap.size, 2, none⟩ = some (.int .i64 s.fall) ∧ W.cell? ⟨w.heap.size, 3, none⟩ = some (.int .i64 s.a.lo) ∧ W.cell? ⟨w.heap.size, 4, none⟩ = some (.int .i64 s.a.hi) ∧ W.cell? ⟨w.heap.size, 5, none⟩ = some (.int .i64 s.b.lo) ∧ W.cell? ⟨w.heap.size, 6, none⟩ = some (.int .i64 s.b.hi) ∧ W.cell? ⟨w.heap.size, 7, none⟩ = some (.int .i64 s.half.lo) ∧ W.cell? ⟨w.heap.size, 8, none⟩ = some (.int .i64 s.half.hi) ∧ W.cell? ⟨w.heap.size, 9, none⟩ = some (.int .i64 s.peak.lo) ∧ W.cell? ⟨w.heap.size, 10, none⟩ = some (.int .i64 s.peak.hi) ∧ W.cell? ⟨w.heap.size, 11, none⟩ = some (.slice (some ⟨b1, o1, none⟩) n c) ∧ W.cell? ⟨b1, o1 + j * 7, none⟩ = some (.int .i64 x.x.lo) ∧ W.cell? ⟨b1, o1 + j * 7 + 1, none⟩ = some (.int .i64 x.x.hi) ∧ W.cell? ⟨b1, o1 + j * 7 + 2, none⟩ = some (.int .i64 x.y.lo) ∧ W.cell? ⟨b1, o1 + j * 7 + 3, none⟩ = some (.int .i64 x.y.hi) ∧ W.cell? ⟨b1, o1 + j * 7 + 4, none⟩ = some (.bool x.hail) ∧ W.cell? ⟨b1, o1 + j * 7 + 5, none⟩ = some (.int .i64 x.size.lo) ∧ W.cell? ⟨b1, o1 + j * 7 + 6, none⟩ = some (.int .i64 x.size.hi) ∧ Boxed1 w #[.int .i64 s.wide, .int .i64 s.high, .int .i64 s.fall, .int .i64 s.a.lo, .int .i64 s.a.hi, .int .i64 s.b.lo, .int .i64 s.b.hi, .int .i64 s.half.lo, .int .i64 s.half.hi, .int .i64 s.peak.lo, .int .i64 s.peak.hi, .slice (some ⟨b1, o1, none⟩) n c] 26 W)
              (first | exact card_of HCS.out HX.out (by assumption) | exact card_of HCS.out HX.out (Boxed1.drew (by assumption)))
              (first | (go_at_call 88; go_split_ands; (with_reducible refine (HN2.out _).mono ?_); rintro e w2 ⟨rfl, hb⟩; have HB2 := Boxed1.step (by assumption) hb; have ho2 := OwnInts.below ‹OwnInts _ _ u3 _› hb; clear hb) | (go_at_call 87; go_split_ands; (with_reducible refine (right_any _ _ _ _ t x _ OK.out.small (OK.out.smallT HT.out) HK.out).mono ?_); rintro e w3 ⟨rfl, hb⟩; have HB3 := Boxed1.step (by assumption) hb; have ho3 := OwnInts.below ‹OwnInts _ _ u3 _› hb; clear hb))
            rw [HC.out]
          · go_wp2_with fail
            go_roundw
            case rel => exact ⟨j + 1, by omega, by go_num, by rw [numOf_no (by rw [HFX.out, HC.out])], ho3, HB3⟩
            case measure => simp [intOf]; omega
          · obtain ⟨N, hN, hN1, hN2, hN3⟩ := pow_facts (show j ≤ 9 by omega)
            have HNN := hid hN
            clear hN
            have hor := i64_or_nat (numOf (fitN s t) j) N hz (by omega)
            have HO : Hid (numOf (fitN s t) (j + 1) = numOf (fitN s t) j ||| N) := by show _ = _; rw [numOf_or (by rw [HFX.out, HC.out]), HNN.out]
            go_wp2_with fail
            go_roundw
            case rel => exact ⟨j + 1, by omega, by go_num, by rw [HO.out], ho3, HB3⟩
            case measure => simp [intOf]; omega
        · have hjn : j = n := by omega
          have HR : Hid (numOf (fitN s t) j = rightN s t) := by show _ = _; rw [hjn, rightN, HL.out]
          have hal' := HAL.out
          clear hjn
          go_wp2_with (at_builtin; refine append_int (by rfl) _ _ (by rfl) (w.heap.size + 1) _ (castL (allTo s k)) _ hown (by rfl) (by rfl) hal' HB.size ?_; intro v' w' ho' hb'; have HB' := HB.step' hb')
          go_roundw
          case rel => exact ⟨k + 1, by omega, by go_num, by rw [HS.out, ← HR.out]; exact ho', HB'⟩
          case measure => simp [intOf]; omega
    · have hkM : k = M := by omega
      have HF : Hid (castL (allTo s k) = castL (allR' s)) := by show _ = _; rw [hkM, HA.out]
      clear hkM
      go_wp2
      go_ret
      exact ⟨_, rfl, HF.out ▸ ho1.mono (by omega), HB1.below⟩

set_option maxRecDepth 20000 in
set_option maxHeartbeats 1000000 in
theorem truths7_any (s : Sto) (p : Option Addr) (n c : Nat) (w : World) (hcs : CrdsAt w p n s.cards) (ok : OkR s) :
    Calls Try.prog 49 #[.agg #[.int .i64 s.wide, .int .i64 s.high, .int .i64 s.fall, .int .i64 s.a.lo, .int .i64 s.a.hi, .int .i64 s.b.lo, .int .i64 s.b.hi, .int .i64 s.half.lo, .int .i64 s.half.hi, .int .i64 s.peak.lo, .int .i64 s.peak.hi, .slice p n c]] w (RetTrus 92 w (truR s)) := by
  have HL := hid hcs.1
  have hn6 : n ≤ 7 := by rw [hcs.1]; exact ok.n7
  have HAL := hid (fun W (hW : Below w.heap.size w W) => all7_any s p n c W (hcs.below hW) ok)
  have HE := hid (fun W => every_any s p n c W (by omega))
  have HN := hid (fun W (x : Nat) (hx : x ≤ 1000000) => nth_any s p n c (x : Int) W ok.ranges ok.h12 (by omega) (by omega))
  have hm1 : 0 ≤ manyS s := (many_mul ok.ranges ok.h12).2.2.2.2.1
  have hm2 := ok.many
  clear hcs ok
  obtain ⟨M, hM⟩ : ∃ M : Nat, manyS s = M := ⟨(manyS s).toNat, by rw [Int.toNat_of_nonneg hm1]⟩
  have HA : Hid (allR' s = allTo s M) := by show _ = _; rw [allR', hM]; rfl
  have HT : Hid (truR s = truTo s M) := by show _ = _; rw [truR, hM]; rfl
  rw [hM] at hm2
  have hM9 : M ≤ 2000 := by omega
  clear hm1 hm2 hM
  go_enter Try.func49, Try.ntmps49
  go_wp2_with fail
  (with_reducible refine (HAL.out _ ?_).mono ?_)
  · exact (Below.refl _ _).alloc (Nat.le_refl _) _
  rintro e wa ⟨v, rfl, hown, hb⟩
  have HBa : Boxed1 w #[.int .i64 s.wide, .int .i64 s.high, .int .i64 s.fall, .int .i64 s.a.lo, .int .i64 s.a.hi, .int .i64 s.b.lo, .int .i64 s.b.hi, .int .i64 s.half.lo, .int .i64 s.half.hi, .int .i64 s.peak.lo, .int .i64 s.peak.hi, .slice p n c] 26 wa := hb.mono (by simp)
  obtain ⟨p3, c3, rfl, hi3⟩ := hown.slice
  have hz : (castL (allR' s)).length = M := by rw [HA.out, allTo_len]
  rw [hz] at hi3
  rw [hz]
  have HI3 := hid hi3
  clear hz hi3 hown hb
  go_wp2_with fail
  go_loopw [4, 5] (fun v i wr => ∃ k : Nat, k ≤ M ∧ i = .int .i64 k ∧ OwnRows cellsT 4 92 wr wa.heap.size v (truTo s k) ∧ Below wa.heap.size wa wr ∧ Boxed1 w #[.int .i64 s.wide, .int .i64 s.high, .int .i64 s.fall, .int .i64 s.a.lo, .int .i64 s.a.hi, .int .i64 s.b.lo, .int .i64 s.b.hi, .int .i64 s.half.lo, .int .i64 s.half.hi, .int .i64 s.peak.lo, .int .i64 s.peak.hi, .slice p n c] 26 wr) (fun _ i _ => M - (intOf i).toNat)
  case atStart => exact ⟨0, by omega, rfl, ownRows_nil _ _ _ _ _, Below.refl _ _, HBa⟩
  case round =>
    obtain ⟨k, hk, rfl, hown, hba, HB⟩ := hrel
    by_cases hlt : k < M
    · obtain ⟨b1, o1, rfl, hb1, hc1⟩ := (HI3.out.below hba).at hlt
      have HS := hid (truTo_succ s k)
      have HLE := hid (truTo_len s k)
      have HRE : Hid ((((rightN s (nthS s k) : Nat) : Int) == everyN n) = s.cards.all (fitsB s (nthS s k))) := by show _ = _; rw [HL.out]; exact right_every s (nthS s k)
      have HCI : Hid ((castL (allR' s))[k]?.getD 0 = ((rightN s (nthS s k) : Nat) : Int)) := by show _ = _; rw [HA.out]; exact castL_at s hlt
      rw [HCI.out] at hc1
      have HI4 := hid (fun W (hb : Below wa.heap.size wa W) (h : Boxed1 w #[.int .i64 s.wide, .int .i64 s.high, .int .i64 s.fall, .int .i64 s.a.lo, .int .i64 s.a.hi, .int .i64 s.b.lo, .int .i64 s.b.hi, .int .i64 s.half.lo, .int .i64 s.half.hi, .int .i64 s.peak.lo, .int .i64 s.peak.hi, .slice p n c] 26 W) => int_of (T := 26) HI3.out hlt hb h)
      rw [HCI.out] at HI4
      have hown' : OwnRows cellsT 4 92 wr.drew wa.heap.size u4 (truTo s k) := hown
      cases hf : s.cards.all (fitsB s (nthS s k))
      all_goals
        have HF := hid hf
        clear hf
        rw [HF.out] at HRE
        have hre := HRE.out
        go_wp2_with fail
        go_region_held3 (fun W => W.cell? ⟨w.heap.size, 0, none⟩ = some (.int .i64 s.wide) ∧ W.cell? ⟨w.heap.size, 1, none⟩ = some (.int .i64 s.high) ∧ W.cell? ⟨w.heap.size, 2, none⟩ = some (.int .i64 s.fall) ∧ W.cell? ⟨w.heap.size, 3, none⟩ = some (.int .i64 s.a.lo) ∧ W.cell? ⟨w.heap.size, 4, none⟩ = some (.int .i64 s.a.hi) ∧ W.cell? ⟨w.heap.size, 5, none⟩ = some (.int .i64 s.b.lo) ∧ W.cell? ⟨w.heap.size, 6, none⟩ = some (.int .i64 s.b.hi) ∧ W.cell? ⟨w.heap.size, 7, none⟩ = some (.int .i64 s.half.lo) ∧ W.cell? ⟨w.heap.size, 8, none⟩ = some (.int .i64 s.half.hi) ∧ W.cell? ⟨w.heap.size, 9, none⟩ = some (.int .i64 s.peak.lo) ∧ W.cell? ⟨w.heap.size, 10, none⟩ = some (.int .i64 s.peak.hi) ∧ W.cell? ⟨w.heap.size, 11, none⟩ = some (.slice p n c) ∧ W.cell? ⟨b1, o1 + k, none⟩ = some (.int .i64 ((rightN s (nthS s k) : Nat) : Int)) ∧ Below wa.heap.size wa W ∧ Boxed1 w #[.int .i64 s.wide, .int .i64 s.high, .int .i64 s.fall, .int .i64 s.a.lo, .int .i64 s.a.hi, .int .i64 s.b.lo, .int .i64 s.b.hi, .int .i64 s.half.lo, .int .i64 s.half.hi, .int .i64 s.peak.lo, .int .i64 s.peak.hi, .slice p n c] 26 W)
          (first | exact HI4.out _ (by assumption) (by assumption) | exact HI4.out _ (Below.drew (by assumption)) (Boxed1.drew (by assumption)))
          ((go_at_call 44; go_split_ands; (with_reducible refine (HE.out _).mono ?_); rintro e w2 ⟨rfl, hb⟩; have HB2 := Boxed1.step (by assumption) hb; have hba2 := Below.trans ‹Below wa.heap.size wa _› (hb.mono (Below.size ‹Below wa.heap.size wa _›)); have ho2 := OwnRows.below ‹OwnRows _ _ _ _ _ u4 _› hb; clear hb))
        clear hre
      · go_wp2_with fail
        go_roundw
        case rel => exact ⟨k + 1, by omega, by go_num, by rw [HS.out, HF.out]; simpa using ho2, hba2, HB2⟩
        case measure => simp [intOf]; omega
      · obtain ⟨t, ht⟩ : ∃ t, nthS s k = t := ⟨_, rfl⟩
        have HN2 := hid (fun W => HN.out W k (by omega))
        rw [ht] at HS HF HN2
        have hsz2 := HB2.size
        have k0 := (StoAt.of HB2.cell).c0
        have k1 := (StoAt.of HB2.cell).c1
        have k2 := (StoAt.of HB2.cell).c2
        have k3 := (StoAt.of HB2.cell).c3
        have k4 := (StoAt.of HB2.cell).c4
        have k5 := (StoAt.of HB2.cell).c5
        have k6 := (StoAt.of HB2.cell).c6
        have k7 := (StoAt.of HB2.cell).c7
        have k8 := (StoAt.of HB2.cell).c8
        have k9 := (StoAt.of HB2.cell).c9
        have k10 := (StoAt.of HB2.cell).c10
        have k11 := (StoAt.of HB2.cell).c11
        go_wp2_with fail
        (with_reducible refine (HN2.out _).mono ?_)
        rintro e w3 ⟨rfl, hb⟩
        have HB3 := HB2.step hb
        have hba3 := hba2.trans (hb.mono hba2.size)
        have ho3 := (ho2.below hb).below ((Below.refl _ _).alloc (Nat.le_refl _) (.cells #[.int .i64 t.a, .int .i64 t.b, .int .i64 t.half, .int .i64 t.peak] 92))
        clear hb k0 k1 k2 k3 k4 k5 k6 k7 k8 k9 k10 k11
        have hsz3 := hba3.size
        have hle : (truTo s k).length ≤ 1000000 := by have := HLE.out; omega
        go_wp2_with (at_builtin; refine append_rows cellsT_len (by decide) cellsT_one 39 92 _ 32 (by decide) Try.info92 rfl Try.und39 (by rfl) _ _ (by rfl) wa.heap.size _ _ _ 1 1 [t] ho3 (by rfl) (by rfl) (tru_lit t 92) hle (by omega) (by simp; omega) ?_; intro v' w' h1 h2 h3)
        have HB4 : Boxed1 w #[.int .i64 s.wide, .int .i64 s.high, .int .i64 s.fall, .int .i64 s.a.lo, .int .i64 s.a.hi, .int .i64 s.b.lo, .int .i64 s.b.hi, .int .i64 s.half.lo, .int .i64 s.half.hi, .int .i64 s.peak.lo, .int .i64 s.peak.hi, .slice p n c] 26 w' := (HB3.alloc _).step' (h2.mono HBa.size)
        have hba4 : Below wa.heap.size wa w' := (hba3.alloc hba3.size (.cells #[.int .i64 t.a, .int .i64 t.b, .int .i64 t.half, .int .i64 t.peak] 92)).trans h2
        go_roundw
        case rel => exact ⟨k + 1, by omega, by go_num, by rw [HS.out, HF.out]; exact h1, hba4, HB4⟩
        case measure => simp [intOf]; omega
    · have hkM : k = M := by omega
      have HF : Hid (truTo s k = truR s) := by show _ = _; rw [hkM, HT.out]
      clear hkM
      go_wp2
      go_ret
      exact ⟨_, rfl, HF.out ▸ hown.mono (by have := HBa.size; omega), HB.below⟩
end Go.Proofs.Ytfnefkenheglhaa
