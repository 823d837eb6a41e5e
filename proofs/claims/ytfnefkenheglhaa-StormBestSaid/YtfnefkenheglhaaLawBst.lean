/- StormBest: whatever is reported of the best place without error, at most as many truths remain as its worst case; no other place has a smaller worst case. For each storm and each word. -/
import Derived.Test.YtfnefkenheglhaaPlBsu
import Derived.Test.YtfnefkenheglhaaLawB
import Derived.Test.YtfnefkenheglhaaLawC
import Derived.Test.YtfnefkenheglhaaLawAwake
namespace Go.Proofs.Ytfnefkenheglhaa
open Go.RowKit

theorem plus_okR {s : Sto} (ok : OkS s) {z : Crd} (hz : SmallK z) : OkR (plusS s z) :=
  ⟨ok.ranges, ok.h12, ok.many, plus_pos ok.pos z, ⟨ok.w2, ok.w12, ok.f0, ok.f4⟩, fun ht => ok.smallT ht, fun {k} hk => by
    have hk' : k ∈ s.cards ++ [z] := hk
    rcases List.mem_append.1 hk' with h | h
    · exact ok.smallK h
    · rw [List.mem_singleton] at h; rw [h]; exact hz, by rw [plus_len]; have := ok.n6; omega⟩
theorem truR_small3 {s : Sto} (ok : OkS s) : ∀ t ∈ truR s, SmallT t := fun _t ht => ok.smallT (truth_in ((truR_perm ok.pos).mem_iff.1 ht))
theorem truR_len3 {s : Sto} (ok : OkS s) : (truR s).length ≤ 2000 := by
  rw [(truR_perm ok.pos).length_eq]; exact truth_len ok

set_option maxRecDepth 40000 in
set_option maxHeartbeats 16000000 in
theorem stormBest_any (s : Sto) (p : Option Addr) (n c : Nat) (wv : Int) (w : World) (hcs : CrdsAt w p n s.cards) (hwv : 0 ≤ wv ∧ wv ≤ 65535) :
    Calls Try.prog 11 #[.agg #[.int .i64 s.wide, .int .i64 s.high, .int .i64 s.fall, .int .i64 s.a.lo, .int .i64 s.a.hi, .int .i64 s.b.lo, .int .i64 s.b.hi, .int .i64 s.half.lo, .int .i64 s.half.hi, .int .i64 s.peak.lo, .int .i64 s.peak.hi, .slice p n c], .int .u16 wv] w fun e w' => e = .returned (.bool true) ∧ Below w.heap.size w w' := by
  have HC := hid hcs
  have HRD := hid (fun W (hb : Below w.heap.size w W) => ready_any s p n c W (hcs.below hb))
  have HWV := hid hwv
  clear hcs hwv
  have H0 : Hid (Boxed1 w #[.int .i64 s.wide, .int .i64 s.high, .int .i64 s.fall, .int .i64 s.a.lo, .int .i64 s.a.hi, .int .i64 s.b.lo, .int .i64 s.b.hi, .int .i64 s.half.lo, .int .i64 s.half.hi, .int .i64 s.peak.lo, .int .i64 s.peak.hi, .slice p n c] 26 (w.alloc (.cells #[.int .i64 s.wide, .int .i64 s.high, .int .i64 s.fall, .int .i64 s.a.lo, .int .i64 s.a.hi, .int .i64 s.b.lo, .int .i64 s.b.hi, .int .i64 s.half.lo, .int .i64 s.half.hi, .int .i64 s.peak.lo, .int .i64 s.peak.hi, .slice p n c] 26))) := Boxed1.start _ _ _
  go_enter Try.func11, Try.ntmps11
  go_wp2_with fail
  (with_reducible refine (HRD.out _ ?_).mono ?_)
  · exact H0.out.below
  rintro e w1 ⟨rfl, hb⟩
  have H1 := hid (H0.out.step hb)
  clear hb
  cases hrd : readyB s
  · clear hrd
    go_wp2_with fail
    refine (awake_any _).mono ?_
    rintro e w99 ⟨rfl, hb⟩
    go_wp2_with fail
    go_ret
    exact ⟨rfl, H1.out.below.trans (hb.mono H1.out.below.size)⟩
  · have HOK := hid (ready_iff.1 hrd).1
    have hn6 : n ≤ 6 := by have := HC.out.1; have := HOK.out.n6; omega
    have HN9 : Hid (n ≤ 1000) := hid (by omega)
    have HRC := hid (box_in HOK.out HWV.out.1)
    clear hrd
    have q1 := HOK.out.w2; have q2 := HOK.out.w12; have q3 := HOK.out.h1; have q4 := HOK.out.h12
    have HES : Hid (sureE s true = if truthL s = [] then 11 else 0) := hid (by rw [sureE, if_pos (fault_iff.2 HOK.out), if_pos rfl])
    have e0 := (StoAt.of H1.out.cell).c0; have e1 := (StoAt.of H1.out.cell).c1; have e2 := (StoAt.of H1.out.cell).c2; have e3 := (StoAt.of H1.out.cell).c3; have e4 := (StoAt.of H1.out.cell).c4; have e5 := (StoAt.of H1.out.cell).c5; have e6 := (StoAt.of H1.out.cell).c6; have e7 := (StoAt.of H1.out.cell).c7; have e8 := (StoAt.of H1.out.cell).c8; have e9 := (StoAt.of H1.out.cell).c9; have e10 := (StoAt.of H1.out.cell).c10; have e11 := (StoAt.of H1.out.cell).c11
    go_wp2_with fail
    refine (storm20_any s p n c w1 (HC.out.below H1.out.below) HN9.out).mono ?_
    rintro e w2 ⟨q1, m1, d1, rfl, hc, hb⟩
    have H2 := hid (H1.out.step hb)
    have HK1 := hid hc
    clear e0 e1 e2 e3 e4 e5 e6 e7 e8 e9 e10 e11 hb hc
    go_wp2_with fail
    refine (best_any s q1 m1 d1 _ HK1.out).mono ?_
    rintro e w3 ⟨rfl, hb⟩
    have H3 := hid (H2.out.step hb)
    replace HK1 := hid (HK1.out.below hb)
    clear hb
    by_cases hL : truthL s = []
    · have hE : sureE s true = 11 := by rw [HES.out, if_pos hL]
      rw [hE]
      go_wp2_with fail
      refine (awake_any _).mono ?_
      rintro e w99 ⟨rfl, hb⟩
      go_wp2_with fail
      go_ret
      exact ⟨rfl, H3.out.below.trans (hb.mono H3.out.below.size)⟩
    · have hE : sureE s true = 0 := by rw [HES.out, if_neg hL]
      obtain ⟨bx, bY, hbt, hx0, hx1, hy0, hy1, hmin⟩ := best_law HOK.out (truthL s)
      have hbv : bestV s = (bx, bY, worstT s (truthL s) bx bY) := by rw [bestV, if_pos hE, hbt]
      rw [hE, hbv]
      obtain ⟨B3, hB3⟩ : ∃ v, worstT s (truthL s) bx bY = v := ⟨_, rfl⟩
      have hwm := worst_max s (truthL s) bx bY
      rw [hB3] at hwm hmin
      simp only [hB3]
      have HXY : Hid ((0 ≤ bx ∧ bx ≤ s.wide - 1) ∧ 0 ≤ bY ∧ bY ≤ s.high - 1) := hid ⟨⟨hx0, hx1⟩, hy0, hy1⟩
      have HMIN := hid hmin
      obtain ⟨NA, hNA⟩ : ∃ N, (truR (plusS s (hailK bx bY))).length = N := ⟨_, rfl⟩
      obtain ⟨NB, hNB⟩ : ∃ N, (truR (plusS s (dryK bx bY))).length = N := ⟨_, rfl⟩
      have hla := hail_len HOK.out bx bY; have hlb := dry_len HOK.out bx bY
      rw [hNA] at hla
      rw [hNB] at hlb
      have HNA := hid hNA; have HNB := hid hNB
      have HAB : Hid ((NA : Int) ≤ B3 ∧ (NB : Int) ≤ B3 ∧ (B3 = NA ∨ B3 = NB)) := hid (by rw [hla, hlb]; exact ⟨hwm.1, hwm.2.1, hwm.2.2.2⟩)
      have HSK1 : Hid (SmallK (hailK bx bY)) := hid (by constructor <;> simp only [hailK] <;> omega)
      have HSK2 : Hid (SmallK (dryK bx bY)) := hid (by constructor <;> simp only [dryK] <;> omega)
      have hin1 : inB bx 0 (s.wide - 1) = true := inB_iff.2 ⟨hx0, hx1⟩
      have hin2 : inB bY 0 (s.high - 1) = true := inB_iff.2 ⟨hy0, hy1⟩
      clear hL hE hbt hx0 hx1 hy0 hy1 hmin hbv hB3 hwm hNA hNB hla hlb
      have e0 := (StoAt.of H3.out.cell).c0; have e1 := (StoAt.of H3.out.cell).c1
      obtain ⟨w4, hw4⟩ : ∃ V, (w3.alloc (.cells #[.int .i64 bx, .int .i64 bx, .int .i64 bY, .int .i64 bY] 64)) = V := ⟨_, rfl⟩
      have H4 : Hid (Boxed1 w #[.int .i64 s.wide, .int .i64 s.high, .int .i64 s.fall, .int .i64 s.a.lo, .int .i64 s.a.hi, .int .i64 s.b.lo, .int .i64 s.b.hi, .int .i64 s.half.lo, .int .i64 s.half.hi, .int .i64 s.peak.lo, .int .i64 s.peak.hi, .slice p n c] 26 w4) := by show Boxed1 w #[.int .i64 s.wide, .int .i64 s.high, .int .i64 s.fall, .int .i64 s.a.lo, .int .i64 s.a.hi, .int .i64 s.b.lo, .int .i64 s.b.hi, .int .i64 s.half.lo, .int .i64 s.half.hi, .int .i64 s.peak.lo, .int .i64 s.peak.hi, .slice p n c] 26 w4; rw [← hw4]; exact H3.out.alloc _
      have HR : Hid (BoxIs w3.heap.size #[.int .i64 bx, .int .i64 bx, .int .i64 bY, .int .i64 bY] w4) := by show BoxIs _ _ _; rw [← hw4]; exact BoxIs.start _ _ _
      go_upto_region 9 with (go_at_call 24; refine (in_any _ _ _ _).mono ?_; rintro e wx ⟨rfl, he⟩; have he := he.symm; subst he)
      clear hw4 e0 e1 hin1 hin2
      go_cut [10, 11] from 16 (fun a9 c9 wr => ∃ ba bb, a9 = .pointer (some ⟨ba, 0, none⟩) ∧ c9 = .pointer (some ⟨bb, 0, none⟩) ∧ BoxIs ba #[.int .i64 s.wide, .int .i64 s.high, .int .i64 s.fall, .int .i64 s.a.lo, .int .i64 s.a.hi, .int .i64 s.b.lo, .int .i64 s.b.hi, .int .i64 s.half.lo, .int .i64 s.half.hi, .int .i64 s.peak.lo, .int .i64 s.peak.hi, .slice p n c] wr ∧ BoxIs bb #[.int .i64 s.wide, .int .i64 s.high, .int .i64 s.fall, .int .i64 s.a.lo, .int .i64 s.a.hi, .int .i64 s.b.lo, .int .i64 s.b.hi, .int .i64 s.half.lo, .int .i64 s.half.hi, .int .i64 s.peak.lo, .int .i64 s.peak.hi, .slice p n c] wr ∧ ba ≠ bb ∧ w4.heap.size ≤ ba ∧ w4.heap.size ≤ bb ∧ Boxed1 w #[.int .i64 s.wide, .int .i64 s.high, .int .i64 s.fall, .int .i64 s.a.lo, .int .i64 s.a.hi, .int .i64 s.b.lo, .int .i64 s.b.hi, .int .i64 s.half.lo, .int .i64 s.half.hi, .int .i64 s.peak.lo, .int .i64 s.peak.hi, .slice p n c] 26 wr ∧ Below w4.heap.size w4 wr)
      case first =>
        obtain ⟨wd, hwd⟩ : ∃ V, w4.drew = V := ⟨_, rfl⟩
        have HD := hid H4.out.drew
        rw [hwd] at HD
        have HWD : Hid (Below w4.heap.size w4 wd) := hid (by rw [← hwd]; exact (Below.refl _ _).drew)
        have HLW : Hid (w.heap.size + 1 ≤ wd.heap.size) := hid HD.out.size
        refine wp_region_held_drew (S := fun V => Boxed1 w #[.int .i64 s.wide, .int .i64 s.high, .int .i64 s.fall, .int .i64 s.a.lo, .int .i64 s.a.hi, .int .i64 s.b.lo, .int .i64 s.b.hi, .int .i64 s.half.lo, .int .i64 s.half.hi, .int .i64 s.peak.lo, .int .i64 s.peak.hi, .slice p n c] 26 V ∧ Below wd.heap.size wd V) (by kernel_rfl) (by rw [hwd]; exact ⟨HD.out, Below.refl _ _⟩) (fun hS => ?_)
        rw [hwd] at hS ⊢
        clear hwd
        simp only [List.size_toArray, List.length_cons, List.length_nil, Nat.reduceAdd, Array.replicate_succ, Array.replicate_zero, List.push_toArray, List.nil_append, List.cons_append]
        refine wpAnyH_take (i := 0) (v := ?_) rfl (by kernel_rfl) (by kernel_rfl) (by kernel_rfl) (fun _ _ _ h => h) (Or.inl ⟨by rfl, fun V hV => ?_⟩) (by assumption) ?_
        rotate_left
        · have e0 := (StoAt.of hV.1.cell).c0; have e1 := (StoAt.of hV.1.cell).c1; have e2 := (StoAt.of hV.1.cell).c2; have e3 := (StoAt.of hV.1.cell).c3; have e4 := (StoAt.of hV.1.cell).c4; have e5 := (StoAt.of hV.1.cell).c5; have e6 := (StoAt.of hV.1.cell).c6; have e7 := (StoAt.of hV.1.cell).c7; have e8 := (StoAt.of hV.1.cell).c8; have e9 := (StoAt.of hV.1.cell).c9; have e10 := (StoAt.of hV.1.cell).c10; have e11 := (StoAt.of hV.1.cell).c11; go_simp
          try with_reducible rfl
        try simp only [Act.put, List.getElem_toArray, List.getElem_cons_zero, List.setIfInBounds_toArray, List.set_cons_zero, List.set_cons_succ]
        refine wpAnyH_take (i := 1) (v := ?_) rfl (by kernel_rfl) (by kernel_rfl) (by kernel_rfl) (fun _ _ _ h => h) (Or.inl ⟨by rfl, fun V hV => ?_⟩) (by assumption) ?_
        rotate_left
        · have e0 := (StoAt.of hV.1.cell).c0; have e1 := (StoAt.of hV.1.cell).c1; have e2 := (StoAt.of hV.1.cell).c2; have e3 := (StoAt.of hV.1.cell).c3; have e4 := (StoAt.of hV.1.cell).c4; have e5 := (StoAt.of hV.1.cell).c5; have e6 := (StoAt.of hV.1.cell).c6; have e7 := (StoAt.of hV.1.cell).c7; have e8 := (StoAt.of hV.1.cell).c8; have e9 := (StoAt.of hV.1.cell).c9; have e10 := (StoAt.of hV.1.cell).c10; have e11 := (StoAt.of hV.1.cell).c11; go_simp
          try with_reducible rfl
        try simp only [Act.put, List.getElem_toArray, List.getElem_cons_zero, List.getElem_cons_succ, List.setIfInBounds_toArray, List.set_cons_zero, List.set_cons_succ]
        refine wpAnyH_ready (rs := [2, 3]) (by kernel_rfl) (by simp) ?_
        refine AllReadyH.cons (o := _) rfl (fun K hK => ?_) ?_
        · skip
          obtain ⟨v2, hv2⟩ : ∃ V, wd.alloc (.cells #[.int .i64 0, .int .i64 0, .int .i64 0, .int .i64 0, .int .i64 0, .int .i64 0, .int .i64 0, .int .i64 0, .int .i64 0, .int .i64 0, .int .i64 0, .slice none 0 0] 26) = V := ⟨_, rfl⟩
          have hb : Below wd.heap.size wd v2 := by rw [← hv2]; exact (Below.refl _ _).alloc (Nat.le_refl _) _
          have HN2 : Hid (BoxIs wd.heap.size #[.int .i64 0, .int .i64 0, .int .i64 0, .int .i64 0, .int .i64 0, .int .i64 0, .int .i64 0, .int .i64 0, .int .i64 0, .int .i64 0, .int .i64 0, .slice none 0 0] v2) := by show BoxIs _ _ _; rw [← hv2]; exact BoxIs.start _ _ _
          have HL2 : Hid (wd.heap.size ≤ wd.heap.size) := hid hS.2.size
          go_simp
          refine hK.out _ _ (⟨hS.1.step hb, hS.2.trans (hb.mono hS.2.size)⟩) (fun hS => ?_)
          clear hK K
          try simp only [List.setIfInBounds_toArray, List.set_cons_zero, List.set_cons_succ]
          refine wpAnyH_ready (rs := [3]) (by kernel_rfl) (by simp) ?_
          refine AllReadyH.cons (o := _) rfl (fun K hK => ?_) AllReadyH.nil
          have HM : Hid (wd.heap.size < v2.heap.size) := hid HN2.out.1
          obtain ⟨v3, hv3⟩ : ∃ V, v2.alloc (.cells #[.int .i64 0, .int .i64 0, .int .i64 0, .int .i64 0, .int .i64 0, .int .i64 0, .int .i64 0, .int .i64 0, .int .i64 0, .int .i64 0, .int .i64 0, .slice none 0 0] 26) = V := ⟨_, rfl⟩
          have hb : Below v2.heap.size v2 v3 := by rw [← hv3]; exact (Below.refl _ _).alloc (Nat.le_refl _) _
          replace HN2 := hid (HN2.out.below hb)
          have HN3 : Hid (BoxIs v2.heap.size #[.int .i64 0, .int .i64 0, .int .i64 0, .int .i64 0, .int .i64 0, .int .i64 0, .int .i64 0, .int .i64 0, .int .i64 0, .int .i64 0, .int .i64 0, .slice none 0 0] v3) := by show BoxIs _ _ _; rw [← hv3]; exact BoxIs.start _ _ _
          have HL3 : Hid (wd.heap.size ≤ v2.heap.size) := hid hS.2.size
          go_simp
          refine hK.out _ _ (⟨hS.1.step hb, hS.2.trans (hb.mono hS.2.size)⟩) (fun hS => ?_)
          clear hK K
          try simp only [List.setIfInBounds_toArray, List.set_cons_zero, List.set_cons_succ]
          refine wpAnyH_ready (rs := [4]) (by kernel_rfl) (by simp) ?_
          refine AllReadyH.cons (o := _) rfl (fun K hK => ?_) AllReadyH.nil
          have k0 := (HN2.out.2 0 (.int .i64 0) rfl).1; have f0 := (HN2.out.2 0 (.int .i64 0) rfl).2; have k1 := (HN2.out.2 1 (.int .i64 0) rfl).1; have f1 := (HN2.out.2 1 (.int .i64 0) rfl).2; have k2 := (HN2.out.2 2 (.int .i64 0) rfl).1; have f2 := (HN2.out.2 2 (.int .i64 0) rfl).2; have k3 := (HN2.out.2 3 (.int .i64 0) rfl).1; have f3 := (HN2.out.2 3 (.int .i64 0) rfl).2; have k4 := (HN2.out.2 4 (.int .i64 0) rfl).1; have f4 := (HN2.out.2 4 (.int .i64 0) rfl).2; have k5 := (HN2.out.2 5 (.int .i64 0) rfl).1; have f5 := (HN2.out.2 5 (.int .i64 0) rfl).2; have k6 := (HN2.out.2 6 (.int .i64 0) rfl).1; have f6 := (HN2.out.2 6 (.int .i64 0) rfl).2; have k7 := (HN2.out.2 7 (.int .i64 0) rfl).1; have f7 := (HN2.out.2 7 (.int .i64 0) rfl).2; have k8 := (HN2.out.2 8 (.int .i64 0) rfl).1; have f8 := (HN2.out.2 8 (.int .i64 0) rfl).2; have k9 := (HN2.out.2 9 (.int .i64 0) rfl).1; have f9 := (HN2.out.2 9 (.int .i64 0) rfl).2; have k10 := (HN2.out.2 10 (.int .i64 0) rfl).1; have f10 := (HN2.out.2 10 (.int .i64 0) rfl).2; have k11 := (HN2.out.2 11 (.slice none 0 0) rfl).1; have f11 := (HN2.out.2 11 (.slice none 0 0) rfl).2
          have HP : Hid (BoxIs wd.heap.size #[.int .i64 s.wide, .int .i64 s.high, .int .i64 s.fall, .int .i64 s.a.lo, .int .i64 s.a.hi, .int .i64 s.b.lo, .int .i64 s.b.hi, .int .i64 s.half.lo, .int .i64 s.half.hi, .int .i64 s.peak.lo, .int .i64 s.peak.hi, .slice p n c] ((((((((((((v3.setCell ⟨wd.heap.size, 0, none⟩ (.int .i64 s.wide)).setCell ⟨wd.heap.size, 1, none⟩ (.int .i64 s.high)).setCell ⟨wd.heap.size, 2, none⟩ (.int .i64 s.fall)).setCell ⟨wd.heap.size, 3, none⟩ (.int .i64 s.a.lo)).setCell ⟨wd.heap.size, 4, none⟩ (.int .i64 s.a.hi)).setCell ⟨wd.heap.size, 5, none⟩ (.int .i64 s.b.lo)).setCell ⟨wd.heap.size, 6, none⟩ (.int .i64 s.b.hi)).setCell ⟨wd.heap.size, 7, none⟩ (.int .i64 s.half.lo)).setCell ⟨wd.heap.size, 8, none⟩ (.int .i64 s.half.hi)).setCell ⟨wd.heap.size, 9, none⟩ (.int .i64 s.peak.lo)).setCell ⟨wd.heap.size, 10, none⟩ (.int .i64 s.peak.hi)).setCell ⟨wd.heap.size, 11, none⟩ (.slice p n c))) := hid (BoxIs.put12 HN2.out (.int .i64 s.wide) (.int .i64 s.high) (.int .i64 s.fall) (.int .i64 s.a.lo) (.int .i64 s.a.hi) (.int .i64 s.b.lo) (.int .i64 s.b.hi) (.int .i64 s.half.lo) (.int .i64 s.half.hi) (.int .i64 s.peak.lo) (.int .i64 s.peak.hi) (.slice p n c))
          have HO : Hid (BoxIs v2.heap.size #[.int .i64 0, .int .i64 0, .int .i64 0, .int .i64 0, .int .i64 0, .int .i64 0, .int .i64 0, .int .i64 0, .int .i64 0, .int .i64 0, .int .i64 0, .slice none 0 0] ((((((((((((v3.setCell ⟨wd.heap.size, 0, none⟩ (.int .i64 s.wide)).setCell ⟨wd.heap.size, 1, none⟩ (.int .i64 s.high)).setCell ⟨wd.heap.size, 2, none⟩ (.int .i64 s.fall)).setCell ⟨wd.heap.size, 3, none⟩ (.int .i64 s.a.lo)).setCell ⟨wd.heap.size, 4, none⟩ (.int .i64 s.a.hi)).setCell ⟨wd.heap.size, 5, none⟩ (.int .i64 s.b.lo)).setCell ⟨wd.heap.size, 6, none⟩ (.int .i64 s.b.hi)).setCell ⟨wd.heap.size, 7, none⟩ (.int .i64 s.half.lo)).setCell ⟨wd.heap.size, 8, none⟩ (.int .i64 s.half.hi)).setCell ⟨wd.heap.size, 9, none⟩ (.int .i64 s.peak.lo)).setCell ⟨wd.heap.size, 10, none⟩ (.int .i64 s.peak.hi)).setCell ⟨wd.heap.size, 11, none⟩ (.slice p n c))) := hid ((((((((((((HN3.out.other (b' := wd.heap.size) (k' := 0) (by have := HM.out; omega) (.int .i64 s.wide)).other (b' := wd.heap.size) (k' := 1) (by have := HM.out; omega) (.int .i64 s.high)).other (b' := wd.heap.size) (k' := 2) (by have := HM.out; omega) (.int .i64 s.fall)).other (b' := wd.heap.size) (k' := 3) (by have := HM.out; omega) (.int .i64 s.a.lo)).other (b' := wd.heap.size) (k' := 4) (by have := HM.out; omega) (.int .i64 s.a.hi)).other (b' := wd.heap.size) (k' := 5) (by have := HM.out; omega) (.int .i64 s.b.lo)).other (b' := wd.heap.size) (k' := 6) (by have := HM.out; omega) (.int .i64 s.b.hi)).other (b' := wd.heap.size) (k' := 7) (by have := HM.out; omega) (.int .i64 s.half.lo)).other (b' := wd.heap.size) (k' := 8) (by have := HM.out; omega) (.int .i64 s.half.hi)).other (b' := wd.heap.size) (k' := 9) (by have := HM.out; omega) (.int .i64 s.peak.lo)).other (b' := wd.heap.size) (k' := 10) (by have := HM.out; omega) (.int .i64 s.peak.hi)).other (b' := wd.heap.size) (k' := 11) (by have := HM.out; omega) (.slice p n c))
          have HBW : Hid (Below wd.heap.size v3 ((((((((((((v3.setCell ⟨wd.heap.size, 0, none⟩ (.int .i64 s.wide)).setCell ⟨wd.heap.size, 1, none⟩ (.int .i64 s.high)).setCell ⟨wd.heap.size, 2, none⟩ (.int .i64 s.fall)).setCell ⟨wd.heap.size, 3, none⟩ (.int .i64 s.a.lo)).setCell ⟨wd.heap.size, 4, none⟩ (.int .i64 s.a.hi)).setCell ⟨wd.heap.size, 5, none⟩ (.int .i64 s.b.lo)).setCell ⟨wd.heap.size, 6, none⟩ (.int .i64 s.b.hi)).setCell ⟨wd.heap.size, 7, none⟩ (.int .i64 s.half.lo)).setCell ⟨wd.heap.size, 8, none⟩ (.int .i64 s.half.hi)).setCell ⟨wd.heap.size, 9, none⟩ (.int .i64 s.peak.lo)).setCell ⟨wd.heap.size, 10, none⟩ (.int .i64 s.peak.hi)).setCell ⟨wd.heap.size, 11, none⟩ (.slice p n c))) := hid (below_put12 (Below.refl _ _) HL2.out (.int .i64 s.wide) (.int .i64 s.high) (.int .i64 s.fall) (.int .i64 s.a.lo) (.int .i64 s.a.hi) (.int .i64 s.b.lo) (.int .i64 s.b.hi) (.int .i64 s.half.lo) (.int .i64 s.half.hi) (.int .i64 s.peak.lo) (.int .i64 s.peak.hi) (.slice p n c))
          have HSW := hid (hS.1.step' (HBW.out.mono HLW.out))
          have HSB := hid (hS.2.trans HBW.out)
          clear hS HBW
          go_simp
          clear k0 f0 k1 f1 k2 f2 k3 f3 k4 f4 k5 f5 k6 f6 k7 f7 k8 f8 k9 f9 k10 f10 k11 f11
          generalize ((((((((((((v3.setCell ⟨wd.heap.size, 0, none⟩ (.int .i64 s.wide)).setCell ⟨wd.heap.size, 1, none⟩ (.int .i64 s.high)).setCell ⟨wd.heap.size, 2, none⟩ (.int .i64 s.fall)).setCell ⟨wd.heap.size, 3, none⟩ (.int .i64 s.a.lo)).setCell ⟨wd.heap.size, 4, none⟩ (.int .i64 s.a.hi)).setCell ⟨wd.heap.size, 5, none⟩ (.int .i64 s.b.lo)).setCell ⟨wd.heap.size, 6, none⟩ (.int .i64 s.b.hi)).setCell ⟨wd.heap.size, 7, none⟩ (.int .i64 s.half.lo)).setCell ⟨wd.heap.size, 8, none⟩ (.int .i64 s.half.hi)).setCell ⟨wd.heap.size, 9, none⟩ (.int .i64 s.peak.lo)).setCell ⟨wd.heap.size, 10, none⟩ (.int .i64 s.peak.hi)).setCell ⟨wd.heap.size, 11, none⟩ (.slice p n c)) = V4 at HP HO HSW HSB ⊢
          replace HN2 := HP; replace HN3 := HO
          refine hK.out _ _ (⟨HSW.out, HSB.out⟩) (fun hS => ?_)
          clear hK K
          try simp only [List.setIfInBounds_toArray, List.set_cons_zero, List.set_cons_succ]
          refine wpAnyH_ready (rs := [5]) (by kernel_rfl) (by simp) ?_
          refine AllReadyH.cons (o := _) rfl (fun K hK => ?_) AllReadyH.nil
          have k0 := (HN3.out.2 0 (.int .i64 0) rfl).1; have f0 := (HN3.out.2 0 (.int .i64 0) rfl).2; have k1 := (HN3.out.2 1 (.int .i64 0) rfl).1; have f1 := (HN3.out.2 1 (.int .i64 0) rfl).2; have k2 := (HN3.out.2 2 (.int .i64 0) rfl).1; have f2 := (HN3.out.2 2 (.int .i64 0) rfl).2; have k3 := (HN3.out.2 3 (.int .i64 0) rfl).1; have f3 := (HN3.out.2 3 (.int .i64 0) rfl).2; have k4 := (HN3.out.2 4 (.int .i64 0) rfl).1; have f4 := (HN3.out.2 4 (.int .i64 0) rfl).2; have k5 := (HN3.out.2 5 (.int .i64 0) rfl).1; have f5 := (HN3.out.2 5 (.int .i64 0) rfl).2; have k6 := (HN3.out.2 6 (.int .i64 0) rfl).1; have f6 := (HN3.out.2 6 (.int .i64 0) rfl).2; have k7 := (HN3.out.2 7 (.int .i64 0) rfl).1; have f7 := (HN3.out.2 7 (.int .i64 0) rfl).2; have k8 := (HN3.out.2 8 (.int .i64 0) rfl).1; have f8 := (HN3.out.2 8 (.int .i64 0) rfl).2; have k9 := (HN3.out.2 9 (.int .i64 0) rfl).1; have f9 := (HN3.out.2 9 (.int .i64 0) rfl).2; have k10 := (HN3.out.2 10 (.int .i64 0) rfl).1; have f10 := (HN3.out.2 10 (.int .i64 0) rfl).2; have k11 := (HN3.out.2 11 (.slice none 0 0) rfl).1; have f11 := (HN3.out.2 11 (.slice none 0 0) rfl).2
          have HP : Hid (BoxIs v2.heap.size #[.int .i64 s.wide, .int .i64 s.high, .int .i64 s.fall, .int .i64 s.a.lo, .int .i64 s.a.hi, .int .i64 s.b.lo, .int .i64 s.b.hi, .int .i64 s.half.lo, .int .i64 s.half.hi, .int .i64 s.peak.lo, .int .i64 s.peak.hi, .slice p n c] ((((((((((((V4.setCell ⟨v2.heap.size, 0, none⟩ (.int .i64 s.wide)).setCell ⟨v2.heap.size, 1, none⟩ (.int .i64 s.high)).setCell ⟨v2.heap.size, 2, none⟩ (.int .i64 s.fall)).setCell ⟨v2.heap.size, 3, none⟩ (.int .i64 s.a.lo)).setCell ⟨v2.heap.size, 4, none⟩ (.int .i64 s.a.hi)).setCell ⟨v2.heap.size, 5, none⟩ (.int .i64 s.b.lo)).setCell ⟨v2.heap.size, 6, none⟩ (.int .i64 s.b.hi)).setCell ⟨v2.heap.size, 7, none⟩ (.int .i64 s.half.lo)).setCell ⟨v2.heap.size, 8, none⟩ (.int .i64 s.half.hi)).setCell ⟨v2.heap.size, 9, none⟩ (.int .i64 s.peak.lo)).setCell ⟨v2.heap.size, 10, none⟩ (.int .i64 s.peak.hi)).setCell ⟨v2.heap.size, 11, none⟩ (.slice p n c))) := hid (BoxIs.put12 HN3.out (.int .i64 s.wide) (.int .i64 s.high) (.int .i64 s.fall) (.int .i64 s.a.lo) (.int .i64 s.a.hi) (.int .i64 s.b.lo) (.int .i64 s.b.hi) (.int .i64 s.half.lo) (.int .i64 s.half.hi) (.int .i64 s.peak.lo) (.int .i64 s.peak.hi) (.slice p n c))
          have HO : Hid (BoxIs wd.heap.size #[.int .i64 s.wide, .int .i64 s.high, .int .i64 s.fall, .int .i64 s.a.lo, .int .i64 s.a.hi, .int .i64 s.b.lo, .int .i64 s.b.hi, .int .i64 s.half.lo, .int .i64 s.half.hi, .int .i64 s.peak.lo, .int .i64 s.peak.hi, .slice p n c] ((((((((((((V4.setCell ⟨v2.heap.size, 0, none⟩ (.int .i64 s.wide)).setCell ⟨v2.heap.size, 1, none⟩ (.int .i64 s.high)).setCell ⟨v2.heap.size, 2, none⟩ (.int .i64 s.fall)).setCell ⟨v2.heap.size, 3, none⟩ (.int .i64 s.a.lo)).setCell ⟨v2.heap.size, 4, none⟩ (.int .i64 s.a.hi)).setCell ⟨v2.heap.size, 5, none⟩ (.int .i64 s.b.lo)).setCell ⟨v2.heap.size, 6, none⟩ (.int .i64 s.b.hi)).setCell ⟨v2.heap.size, 7, none⟩ (.int .i64 s.half.lo)).setCell ⟨v2.heap.size, 8, none⟩ (.int .i64 s.half.hi)).setCell ⟨v2.heap.size, 9, none⟩ (.int .i64 s.peak.lo)).setCell ⟨v2.heap.size, 10, none⟩ (.int .i64 s.peak.hi)).setCell ⟨v2.heap.size, 11, none⟩ (.slice p n c))) := hid ((((((((((((HN2.out.other (b' := v2.heap.size) (k' := 0) (by have := HM.out; omega) (.int .i64 s.wide)).other (b' := v2.heap.size) (k' := 1) (by have := HM.out; omega) (.int .i64 s.high)).other (b' := v2.heap.size) (k' := 2) (by have := HM.out; omega) (.int .i64 s.fall)).other (b' := v2.heap.size) (k' := 3) (by have := HM.out; omega) (.int .i64 s.a.lo)).other (b' := v2.heap.size) (k' := 4) (by have := HM.out; omega) (.int .i64 s.a.hi)).other (b' := v2.heap.size) (k' := 5) (by have := HM.out; omega) (.int .i64 s.b.lo)).other (b' := v2.heap.size) (k' := 6) (by have := HM.out; omega) (.int .i64 s.b.hi)).other (b' := v2.heap.size) (k' := 7) (by have := HM.out; omega) (.int .i64 s.half.lo)).other (b' := v2.heap.size) (k' := 8) (by have := HM.out; omega) (.int .i64 s.half.hi)).other (b' := v2.heap.size) (k' := 9) (by have := HM.out; omega) (.int .i64 s.peak.lo)).other (b' := v2.heap.size) (k' := 10) (by have := HM.out; omega) (.int .i64 s.peak.hi)).other (b' := v2.heap.size) (k' := 11) (by have := HM.out; omega) (.slice p n c))
          have HBW : Hid (Below wd.heap.size V4 ((((((((((((V4.setCell ⟨v2.heap.size, 0, none⟩ (.int .i64 s.wide)).setCell ⟨v2.heap.size, 1, none⟩ (.int .i64 s.high)).setCell ⟨v2.heap.size, 2, none⟩ (.int .i64 s.fall)).setCell ⟨v2.heap.size, 3, none⟩ (.int .i64 s.a.lo)).setCell ⟨v2.heap.size, 4, none⟩ (.int .i64 s.a.hi)).setCell ⟨v2.heap.size, 5, none⟩ (.int .i64 s.b.lo)).setCell ⟨v2.heap.size, 6, none⟩ (.int .i64 s.b.hi)).setCell ⟨v2.heap.size, 7, none⟩ (.int .i64 s.half.lo)).setCell ⟨v2.heap.size, 8, none⟩ (.int .i64 s.half.hi)).setCell ⟨v2.heap.size, 9, none⟩ (.int .i64 s.peak.lo)).setCell ⟨v2.heap.size, 10, none⟩ (.int .i64 s.peak.hi)).setCell ⟨v2.heap.size, 11, none⟩ (.slice p n c))) := hid (below_put12 (Below.refl _ _) HL3.out (.int .i64 s.wide) (.int .i64 s.high) (.int .i64 s.fall) (.int .i64 s.a.lo) (.int .i64 s.a.hi) (.int .i64 s.b.lo) (.int .i64 s.b.hi) (.int .i64 s.half.lo) (.int .i64 s.half.hi) (.int .i64 s.peak.lo) (.int .i64 s.peak.hi) (.slice p n c))
          have HSW := hid (hS.1.step' (HBW.out.mono HLW.out))
          have HSB := hid (hS.2.trans HBW.out)
          clear hS HBW
          go_simp
          clear k0 f0 k1 f1 k2 f2 k3 f3 k4 f4 k5 f5 k6 f6 k7 f7 k8 f8 k9 f9 k10 f10 k11 f11
          generalize ((((((((((((V4.setCell ⟨v2.heap.size, 0, none⟩ (.int .i64 s.wide)).setCell ⟨v2.heap.size, 1, none⟩ (.int .i64 s.high)).setCell ⟨v2.heap.size, 2, none⟩ (.int .i64 s.fall)).setCell ⟨v2.heap.size, 3, none⟩ (.int .i64 s.a.lo)).setCell ⟨v2.heap.size, 4, none⟩ (.int .i64 s.a.hi)).setCell ⟨v2.heap.size, 5, none⟩ (.int .i64 s.b.lo)).setCell ⟨v2.heap.size, 6, none⟩ (.int .i64 s.b.hi)).setCell ⟨v2.heap.size, 7, none⟩ (.int .i64 s.half.lo)).setCell ⟨v2.heap.size, 8, none⟩ (.int .i64 s.half.hi)).setCell ⟨v2.heap.size, 9, none⟩ (.int .i64 s.peak.lo)).setCell ⟨v2.heap.size, 10, none⟩ (.int .i64 s.peak.hi)).setCell ⟨v2.heap.size, 11, none⟩ (.slice p n c)) = V5 at HP HO HSW HSB ⊢
          replace HN3 := HP; replace HN2 := HO
          refine hK.out _ _ (⟨HSW.out, HSB.out⟩) (fun hS => ?_)
          clear hK K
          try simp only [List.setIfInBounds_toArray, List.set_cons_zero, List.set_cons_succ]
          refine wpAnyH_done (by kernel_rfl) ?_ _
          go_wp2
          go_meet
          case rel => exact ⟨_, _, rfl, rfl, HN2.out, HN3.out, by have := HM.out; omega, by have := HL2.out; have := HWD.out.size; omega, by have := HL3.out; have := HWD.out.size; omega, hS.1, HWD.out.trans (hS.2.mono HWD.out.size)⟩
        refine AllReadyH.cons (o := _) rfl (fun K hK => ?_) AllReadyH.nil
        obtain ⟨v3, hv3⟩ : ∃ V, wd.alloc (.cells #[.int .i64 0, .int .i64 0, .int .i64 0, .int .i64 0, .int .i64 0, .int .i64 0, .int .i64 0, .int .i64 0, .int .i64 0, .int .i64 0, .int .i64 0, .slice none 0 0] 26) = V := ⟨_, rfl⟩
        have hb : Below wd.heap.size wd v3 := by rw [← hv3]; exact (Below.refl _ _).alloc (Nat.le_refl _) _
        have HN3 : Hid (BoxIs wd.heap.size #[.int .i64 0, .int .i64 0, .int .i64 0, .int .i64 0, .int .i64 0, .int .i64 0, .int .i64 0, .int .i64 0, .int .i64 0, .int .i64 0, .int .i64 0, .slice none 0 0] v3) := by show BoxIs _ _ _; rw [← hv3]; exact BoxIs.start _ _ _
        have HL3 : Hid (wd.heap.size ≤ wd.heap.size) := hid hS.2.size
        go_simp
        refine hK.out _ _ (⟨hS.1.step hb, hS.2.trans (hb.mono hS.2.size)⟩) (fun hS => ?_)
        clear hK K
        try simp only [List.setIfInBounds_toArray, List.set_cons_zero, List.set_cons_succ]
        refine wpAnyH_ready (rs := [2]) (by kernel_rfl) (by simp) ?_
        refine AllReadyH.cons (o := _) rfl (fun K hK => ?_) AllReadyH.nil
        have HM : Hid (wd.heap.size < v3.heap.size) := hid HN3.out.1
        obtain ⟨v2, hv2⟩ : ∃ V, v3.alloc (.cells #[.int .i64 0, .int .i64 0, .int .i64 0, .int .i64 0, .int .i64 0, .int .i64 0, .int .i64 0, .int .i64 0, .int .i64 0, .int .i64 0, .int .i64 0, .slice none 0 0] 26) = V := ⟨_, rfl⟩
        have hb : Below v3.heap.size v3 v2 := by rw [← hv2]; exact (Below.refl _ _).alloc (Nat.le_refl _) _
        replace HN3 := hid (HN3.out.below hb)
        have HN2 : Hid (BoxIs v3.heap.size #[.int .i64 0, .int .i64 0, .int .i64 0, .int .i64 0, .int .i64 0, .int .i64 0, .int .i64 0, .int .i64 0, .int .i64 0, .int .i64 0, .int .i64 0, .slice none 0 0] v2) := by show BoxIs _ _ _; rw [← hv2]; exact BoxIs.start _ _ _
        have HL2 : Hid (wd.heap.size ≤ v3.heap.size) := hid hS.2.size
        go_simp
        refine hK.out _ _ (⟨hS.1.step hb, hS.2.trans (hb.mono hS.2.size)⟩) (fun hS => ?_)
        clear hK K
        try simp only [List.setIfInBounds_toArray, List.set_cons_zero, List.set_cons_succ]
        refine wpAnyH_ready (rs := [4]) (by kernel_rfl) (by simp) ?_
        refine AllReadyH.cons (o := _) rfl (fun K hK => ?_) AllReadyH.nil
        have k0 := (HN2.out.2 0 (.int .i64 0) rfl).1; have f0 := (HN2.out.2 0 (.int .i64 0) rfl).2; have k1 := (HN2.out.2 1 (.int .i64 0) rfl).1; have f1 := (HN2.out.2 1 (.int .i64 0) rfl).2; have k2 := (HN2.out.2 2 (.int .i64 0) rfl).1; have f2 := (HN2.out.2 2 (.int .i64 0) rfl).2; have k3 := (HN2.out.2 3 (.int .i64 0) rfl).1; have f3 := (HN2.out.2 3 (.int .i64 0) rfl).2; have k4 := (HN2.out.2 4 (.int .i64 0) rfl).1; have f4 := (HN2.out.2 4 (.int .i64 0) rfl).2; have k5 := (HN2.out.2 5 (.int .i64 0) rfl).1; have f5 := (HN2.out.2 5 (.int .i64 0) rfl).2; have k6 := (HN2.out.2 6 (.int .i64 0) rfl).1; have f6 := (HN2.out.2 6 (.int .i64 0) rfl).2; have k7 := (HN2.out.2 7 (.int .i64 0) rfl).1; have f7 := (HN2.out.2 7 (.int .i64 0) rfl).2; have k8 := (HN2.out.2 8 (.int .i64 0) rfl).1; have f8 := (HN2.out.2 8 (.int .i64 0) rfl).2; have k9 := (HN2.out.2 9 (.int .i64 0) rfl).1; have f9 := (HN2.out.2 9 (.int .i64 0) rfl).2; have k10 := (HN2.out.2 10 (.int .i64 0) rfl).1; have f10 := (HN2.out.2 10 (.int .i64 0) rfl).2; have k11 := (HN2.out.2 11 (.slice none 0 0) rfl).1; have f11 := (HN2.out.2 11 (.slice none 0 0) rfl).2
        have HP : Hid (BoxIs v3.heap.size #[.int .i64 s.wide, .int .i64 s.high, .int .i64 s.fall, .int .i64 s.a.lo, .int .i64 s.a.hi, .int .i64 s.b.lo, .int .i64 s.b.hi, .int .i64 s.half.lo, .int .i64 s.half.hi, .int .i64 s.peak.lo, .int .i64 s.peak.hi, .slice p n c] ((((((((((((v2.setCell ⟨v3.heap.size, 0, none⟩ (.int .i64 s.wide)).setCell ⟨v3.heap.size, 1, none⟩ (.int .i64 s.high)).setCell ⟨v3.heap.size, 2, none⟩ (.int .i64 s.fall)).setCell ⟨v3.heap.size, 3, none⟩ (.int .i64 s.a.lo)).setCell ⟨v3.heap.size, 4, none⟩ (.int .i64 s.a.hi)).setCell ⟨v3.heap.size, 5, none⟩ (.int .i64 s.b.lo)).setCell ⟨v3.heap.size, 6, none⟩ (.int .i64 s.b.hi)).setCell ⟨v3.heap.size, 7, none⟩ (.int .i64 s.half.lo)).setCell ⟨v3.heap.size, 8, none⟩ (.int .i64 s.half.hi)).setCell ⟨v3.heap.size, 9, none⟩ (.int .i64 s.peak.lo)).setCell ⟨v3.heap.size, 10, none⟩ (.int .i64 s.peak.hi)).setCell ⟨v3.heap.size, 11, none⟩ (.slice p n c))) := hid (BoxIs.put12 HN2.out (.int .i64 s.wide) (.int .i64 s.high) (.int .i64 s.fall) (.int .i64 s.a.lo) (.int .i64 s.a.hi) (.int .i64 s.b.lo) (.int .i64 s.b.hi) (.int .i64 s.half.lo) (.int .i64 s.half.hi) (.int .i64 s.peak.lo) (.int .i64 s.peak.hi) (.slice p n c))
        have HO : Hid (BoxIs wd.heap.size #[.int .i64 0, .int .i64 0, .int .i64 0, .int .i64 0, .int .i64 0, .int .i64 0, .int .i64 0, .int .i64 0, .int .i64 0, .int .i64 0, .int .i64 0, .slice none 0 0] ((((((((((((v2.setCell ⟨v3.heap.size, 0, none⟩ (.int .i64 s.wide)).setCell ⟨v3.heap.size, 1, none⟩ (.int .i64 s.high)).setCell ⟨v3.heap.size, 2, none⟩ (.int .i64 s.fall)).setCell ⟨v3.heap.size, 3, none⟩ (.int .i64 s.a.lo)).setCell ⟨v3.heap.size, 4, none⟩ (.int .i64 s.a.hi)).setCell ⟨v3.heap.size, 5, none⟩ (.int .i64 s.b.lo)).setCell ⟨v3.heap.size, 6, none⟩ (.int .i64 s.b.hi)).setCell ⟨v3.heap.size, 7, none⟩ (.int .i64 s.half.lo)).setCell ⟨v3.heap.size, 8, none⟩ (.int .i64 s.half.hi)).setCell ⟨v3.heap.size, 9, none⟩ (.int .i64 s.peak.lo)).setCell ⟨v3.heap.size, 10, none⟩ (.int .i64 s.peak.hi)).setCell ⟨v3.heap.size, 11, none⟩ (.slice p n c))) := hid ((((((((((((HN3.out.other (b' := v3.heap.size) (k' := 0) (by have := HM.out; omega) (.int .i64 s.wide)).other (b' := v3.heap.size) (k' := 1) (by have := HM.out; omega) (.int .i64 s.high)).other (b' := v3.heap.size) (k' := 2) (by have := HM.out; omega) (.int .i64 s.fall)).other (b' := v3.heap.size) (k' := 3) (by have := HM.out; omega) (.int .i64 s.a.lo)).other (b' := v3.heap.size) (k' := 4) (by have := HM.out; omega) (.int .i64 s.a.hi)).other (b' := v3.heap.size) (k' := 5) (by have := HM.out; omega) (.int .i64 s.b.lo)).other (b' := v3.heap.size) (k' := 6) (by have := HM.out; omega) (.int .i64 s.b.hi)).other (b' := v3.heap.size) (k' := 7) (by have := HM.out; omega) (.int .i64 s.half.lo)).other (b' := v3.heap.size) (k' := 8) (by have := HM.out; omega) (.int .i64 s.half.hi)).other (b' := v3.heap.size) (k' := 9) (by have := HM.out; omega) (.int .i64 s.peak.lo)).other (b' := v3.heap.size) (k' := 10) (by have := HM.out; omega) (.int .i64 s.peak.hi)).other (b' := v3.heap.size) (k' := 11) (by have := HM.out; omega) (.slice p n c))
        have HBW : Hid (Below wd.heap.size v2 ((((((((((((v2.setCell ⟨v3.heap.size, 0, none⟩ (.int .i64 s.wide)).setCell ⟨v3.heap.size, 1, none⟩ (.int .i64 s.high)).setCell ⟨v3.heap.size, 2, none⟩ (.int .i64 s.fall)).setCell ⟨v3.heap.size, 3, none⟩ (.int .i64 s.a.lo)).setCell ⟨v3.heap.size, 4, none⟩ (.int .i64 s.a.hi)).setCell ⟨v3.heap.size, 5, none⟩ (.int .i64 s.b.lo)).setCell ⟨v3.heap.size, 6, none⟩ (.int .i64 s.b.hi)).setCell ⟨v3.heap.size, 7, none⟩ (.int .i64 s.half.lo)).setCell ⟨v3.heap.size, 8, none⟩ (.int .i64 s.half.hi)).setCell ⟨v3.heap.size, 9, none⟩ (.int .i64 s.peak.lo)).setCell ⟨v3.heap.size, 10, none⟩ (.int .i64 s.peak.hi)).setCell ⟨v3.heap.size, 11, none⟩ (.slice p n c))) := hid (below_put12 (Below.refl _ _) HL2.out (.int .i64 s.wide) (.int .i64 s.high) (.int .i64 s.fall) (.int .i64 s.a.lo) (.int .i64 s.a.hi) (.int .i64 s.b.lo) (.int .i64 s.b.hi) (.int .i64 s.half.lo) (.int .i64 s.half.hi) (.int .i64 s.peak.lo) (.int .i64 s.peak.hi) (.slice p n c))
        have HSW := hid (hS.1.step' (HBW.out.mono HLW.out))
        have HSB := hid (hS.2.trans HBW.out)
        clear hS HBW
        go_simp
        clear k0 f0 k1 f1 k2 f2 k3 f3 k4 f4 k5 f5 k6 f6 k7 f7 k8 f8 k9 f9 k10 f10 k11 f11
        generalize ((((((((((((v2.setCell ⟨v3.heap.size, 0, none⟩ (.int .i64 s.wide)).setCell ⟨v3.heap.size, 1, none⟩ (.int .i64 s.high)).setCell ⟨v3.heap.size, 2, none⟩ (.int .i64 s.fall)).setCell ⟨v3.heap.size, 3, none⟩ (.int .i64 s.a.lo)).setCell ⟨v3.heap.size, 4, none⟩ (.int .i64 s.a.hi)).setCell ⟨v3.heap.size, 5, none⟩ (.int .i64 s.b.lo)).setCell ⟨v3.heap.size, 6, none⟩ (.int .i64 s.b.hi)).setCell ⟨v3.heap.size, 7, none⟩ (.int .i64 s.half.lo)).setCell ⟨v3.heap.size, 8, none⟩ (.int .i64 s.half.hi)).setCell ⟨v3.heap.size, 9, none⟩ (.int .i64 s.peak.lo)).setCell ⟨v3.heap.size, 10, none⟩ (.int .i64 s.peak.hi)).setCell ⟨v3.heap.size, 11, none⟩ (.slice p n c)) = V4 at HP HO HSW HSB ⊢
        replace HN2 := HP; replace HN3 := HO
        refine hK.out _ _ (⟨HSW.out, HSB.out⟩) (fun hS => ?_)
        clear hK K
        try simp only [List.setIfInBounds_toArray, List.set_cons_zero, List.set_cons_succ]
        refine wpAnyH_ready (rs := [5]) (by kernel_rfl) (by simp) ?_
        refine AllReadyH.cons (o := _) rfl (fun K hK => ?_) AllReadyH.nil
        have k0 := (HN3.out.2 0 (.int .i64 0) rfl).1; have f0 := (HN3.out.2 0 (.int .i64 0) rfl).2; have k1 := (HN3.out.2 1 (.int .i64 0) rfl).1; have f1 := (HN3.out.2 1 (.int .i64 0) rfl).2; have k2 := (HN3.out.2 2 (.int .i64 0) rfl).1; have f2 := (HN3.out.2 2 (.int .i64 0) rfl).2; have k3 := (HN3.out.2 3 (.int .i64 0) rfl).1; have f3 := (HN3.out.2 3 (.int .i64 0) rfl).2; have k4 := (HN3.out.2 4 (.int .i64 0) rfl).1; have f4 := (HN3.out.2 4 (.int .i64 0) rfl).2; have k5 := (HN3.out.2 5 (.int .i64 0) rfl).1; have f5 := (HN3.out.2 5 (.int .i64 0) rfl).2; have k6 := (HN3.out.2 6 (.int .i64 0) rfl).1; have f6 := (HN3.out.2 6 (.int .i64 0) rfl).2; have k7 := (HN3.out.2 7 (.int .i64 0) rfl).1; have f7 := (HN3.out.2 7 (.int .i64 0) rfl).2; have k8 := (HN3.out.2 8 (.int .i64 0) rfl).1; have f8 := (HN3.out.2 8 (.int .i64 0) rfl).2; have k9 := (HN3.out.2 9 (.int .i64 0) rfl).1; have f9 := (HN3.out.2 9 (.int .i64 0) rfl).2; have k10 := (HN3.out.2 10 (.int .i64 0) rfl).1; have f10 := (HN3.out.2 10 (.int .i64 0) rfl).2; have k11 := (HN3.out.2 11 (.slice none 0 0) rfl).1; have f11 := (HN3.out.2 11 (.slice none 0 0) rfl).2
        have HP : Hid (BoxIs wd.heap.size #[.int .i64 s.wide, .int .i64 s.high, .int .i64 s.fall, .int .i64 s.a.lo, .int .i64 s.a.hi, .int .i64 s.b.lo, .int .i64 s.b.hi, .int .i64 s.half.lo, .int .i64 s.half.hi, .int .i64 s.peak.lo, .int .i64 s.peak.hi, .slice p n c] ((((((((((((V4.setCell ⟨wd.heap.size, 0, none⟩ (.int .i64 s.wide)).setCell ⟨wd.heap.size, 1, none⟩ (.int .i64 s.high)).setCell ⟨wd.heap.size, 2, none⟩ (.int .i64 s.fall)).setCell ⟨wd.heap.size, 3, none⟩ (.int .i64 s.a.lo)).setCell ⟨wd.heap.size, 4, none⟩ (.int .i64 s.a.hi)).setCell ⟨wd.heap.size, 5, none⟩ (.int .i64 s.b.lo)).setCell ⟨wd.heap.size, 6, none⟩ (.int .i64 s.b.hi)).setCell ⟨wd.heap.size, 7, none⟩ (.int .i64 s.half.lo)).setCell ⟨wd.heap.size, 8, none⟩ (.int .i64 s.half.hi)).setCell ⟨wd.heap.size, 9, none⟩ (.int .i64 s.peak.lo)).setCell ⟨wd.heap.size, 10, none⟩ (.int .i64 s.peak.hi)).setCell ⟨wd.heap.size, 11, none⟩ (.slice p n c))) := hid (BoxIs.put12 HN3.out (.int .i64 s.wide) (.int .i64 s.high) (.int .i64 s.fall) (.int .i64 s.a.lo) (.int .i64 s.a.hi) (.int .i64 s.b.lo) (.int .i64 s.b.hi) (.int .i64 s.half.lo) (.int .i64 s.half.hi) (.int .i64 s.peak.lo) (.int .i64 s.peak.hi) (.slice p n c))
        have HO : Hid (BoxIs v3.heap.size #[.int .i64 s.wide, .int .i64 s.high, .int .i64 s.fall, .int .i64 s.a.lo, .int .i64 s.a.hi, .int .i64 s.b.lo, .int .i64 s.b.hi, .int .i64 s.half.lo, .int .i64 s.half.hi, .int .i64 s.peak.lo, .int .i64 s.peak.hi, .slice p n c] ((((((((((((V4.setCell ⟨wd.heap.size, 0, none⟩ (.int .i64 s.wide)).setCell ⟨wd.heap.size, 1, none⟩ (.int .i64 s.high)).setCell ⟨wd.heap.size, 2, none⟩ (.int .i64 s.fall)).setCell ⟨wd.heap.size, 3, none⟩ (.int .i64 s.a.lo)).setCell ⟨wd.heap.size, 4, none⟩ (.int .i64 s.a.hi)).setCell ⟨wd.heap.size, 5, none⟩ (.int .i64 s.b.lo)).setCell ⟨wd.heap.size, 6, none⟩ (.int .i64 s.b.hi)).setCell ⟨wd.heap.size, 7, none⟩ (.int .i64 s.half.lo)).setCell ⟨wd.heap.size, 8, none⟩ (.int .i64 s.half.hi)).setCell ⟨wd.heap.size, 9, none⟩ (.int .i64 s.peak.lo)).setCell ⟨wd.heap.size, 10, none⟩ (.int .i64 s.peak.hi)).setCell ⟨wd.heap.size, 11, none⟩ (.slice p n c))) := hid ((((((((((((HN2.out.other (b' := wd.heap.size) (k' := 0) (by have := HM.out; omega) (.int .i64 s.wide)).other (b' := wd.heap.size) (k' := 1) (by have := HM.out; omega) (.int .i64 s.high)).other (b' := wd.heap.size) (k' := 2) (by have := HM.out; omega) (.int .i64 s.fall)).other (b' := wd.heap.size) (k' := 3) (by have := HM.out; omega) (.int .i64 s.a.lo)).other (b' := wd.heap.size) (k' := 4) (by have := HM.out; omega) (.int .i64 s.a.hi)).other (b' := wd.heap.size) (k' := 5) (by have := HM.out; omega) (.int .i64 s.b.lo)).other (b' := wd.heap.size) (k' := 6) (by have := HM.out; omega) (.int .i64 s.b.hi)).other (b' := wd.heap.size) (k' := 7) (by have := HM.out; omega) (.int .i64 s.half.lo)).other (b' := wd.heap.size) (k' := 8) (by have := HM.out; omega) (.int .i64 s.half.hi)).other (b' := wd.heap.size) (k' := 9) (by have := HM.out; omega) (.int .i64 s.peak.lo)).other (b' := wd.heap.size) (k' := 10) (by have := HM.out; omega) (.int .i64 s.peak.hi)).other (b' := wd.heap.size) (k' := 11) (by have := HM.out; omega) (.slice p n c))
        have HBW : Hid (Below wd.heap.size V4 ((((((((((((V4.setCell ⟨wd.heap.size, 0, none⟩ (.int .i64 s.wide)).setCell ⟨wd.heap.size, 1, none⟩ (.int .i64 s.high)).setCell ⟨wd.heap.size, 2, none⟩ (.int .i64 s.fall)).setCell ⟨wd.heap.size, 3, none⟩ (.int .i64 s.a.lo)).setCell ⟨wd.heap.size, 4, none⟩ (.int .i64 s.a.hi)).setCell ⟨wd.heap.size, 5, none⟩ (.int .i64 s.b.lo)).setCell ⟨wd.heap.size, 6, none⟩ (.int .i64 s.b.hi)).setCell ⟨wd.heap.size, 7, none⟩ (.int .i64 s.half.lo)).setCell ⟨wd.heap.size, 8, none⟩ (.int .i64 s.half.hi)).setCell ⟨wd.heap.size, 9, none⟩ (.int .i64 s.peak.lo)).setCell ⟨wd.heap.size, 10, none⟩ (.int .i64 s.peak.hi)).setCell ⟨wd.heap.size, 11, none⟩ (.slice p n c))) := hid (below_put12 (Below.refl _ _) HL3.out (.int .i64 s.wide) (.int .i64 s.high) (.int .i64 s.fall) (.int .i64 s.a.lo) (.int .i64 s.a.hi) (.int .i64 s.b.lo) (.int .i64 s.b.hi) (.int .i64 s.half.lo) (.int .i64 s.half.hi) (.int .i64 s.peak.lo) (.int .i64 s.peak.hi) (.slice p n c))
        have HSW := hid (hS.1.step' (HBW.out.mono HLW.out))
        have HSB := hid (hS.2.trans HBW.out)
        clear hS HBW
        go_simp
        clear k0 f0 k1 f1 k2 f2 k3 f3 k4 f4 k5 f5 k6 f6 k7 f7 k8 f8 k9 f9 k10 f10 k11 f11
        generalize ((((((((((((V4.setCell ⟨wd.heap.size, 0, none⟩ (.int .i64 s.wide)).setCell ⟨wd.heap.size, 1, none⟩ (.int .i64 s.high)).setCell ⟨wd.heap.size, 2, none⟩ (.int .i64 s.fall)).setCell ⟨wd.heap.size, 3, none⟩ (.int .i64 s.a.lo)).setCell ⟨wd.heap.size, 4, none⟩ (.int .i64 s.a.hi)).setCell ⟨wd.heap.size, 5, none⟩ (.int .i64 s.b.lo)).setCell ⟨wd.heap.size, 6, none⟩ (.int .i64 s.b.hi)).setCell ⟨wd.heap.size, 7, none⟩ (.int .i64 s.half.lo)).setCell ⟨wd.heap.size, 8, none⟩ (.int .i64 s.half.hi)).setCell ⟨wd.heap.size, 9, none⟩ (.int .i64 s.peak.lo)).setCell ⟨wd.heap.size, 10, none⟩ (.int .i64 s.peak.hi)).setCell ⟨wd.heap.size, 11, none⟩ (.slice p n c)) = V5 at HP HO HSW HSB ⊢
        replace HN3 := HP; replace HN2 := HO
        refine hK.out _ _ (⟨HSW.out, HSB.out⟩) (fun hS => ?_)
        clear hK K
        try simp only [List.setIfInBounds_toArray, List.set_cons_zero, List.set_cons_succ]
        refine wpAnyH_done (by kernel_rfl) ?_ _
        go_wp2
        go_meet
        case rel => exact ⟨_, _, rfl, rfl, HN2.out, HN3.out, by have := HM.out; omega, by have := HL2.out; have := HWD.out.size; omega, by have := HL3.out; have := HWD.out.size; omega, hS.1, HWD.out.trans (hS.2.mono HWD.out.size)⟩
      case rest =>
        obtain ⟨ba, bb, rfl, rfl, hxa, hxb, hne, hla, hlb, hw, hbw⟩ := hcut
        have HX := hid hxa; have HY := hid hxb; have HNE := hid hne; have HLA := hid hla; have HLB := hid hlb; have H5 := hid hw; have HRL : Hid (w3.heap.size < w4.heap.size) := hid HR.out.1; have HLW : Hid (w.heap.size + 1 ≤ w4.heap.size) := hid H4.out.size; replace HR := hid (HR.out.below hbw)
        clear hxa hxb hne hla hlb hw hbw
        generalize wc = w5 at HX HY HR H5 ⊢
        have HLX : Hid (w.heap.size + 1 ≤ ba) := hid (Nat.le_trans HLW.out HLA.out)
        have HLY : Hid (w.heap.size + 1 ≤ bb) := hid (Nat.le_trans HLW.out HLB.out)
        have HYL : Hid (bb < w5.heap.size) := hid HY.out.1
        go_upto_region 10 with fail
        go_cut [] from 16 (fun wr => ∃ q9 m9 d9, BoxIs ba #[.int .i64 s.wide, .int .i64 s.high, .int .i64 s.fall, .int .i64 s.a.lo, .int .i64 s.a.hi, .int .i64 s.b.lo, .int .i64 s.b.hi, .int .i64 s.half.lo, .int .i64 s.half.hi, .int .i64 s.peak.lo, .int .i64 s.peak.hi, .slice q9 m9 d9] wr ∧ CrdsAt wr q9 m9 (s.cards ++ [(hailK bx bY)]) ∧ Boxed1 w #[.int .i64 s.wide, .int .i64 s.high, .int .i64 s.fall, .int .i64 s.a.lo, .int .i64 s.a.hi, .int .i64 s.b.lo, .int .i64 s.b.hi, .int .i64 s.half.lo, .int .i64 s.half.hi, .int .i64 s.peak.lo, .int .i64 s.peak.hi, .slice p n c] 26 wr ∧ Below ba w5 wr ∧ BoxIs bb #[.int .i64 s.wide, .int .i64 s.high, .int .i64 s.fall, .int .i64 s.a.lo, .int .i64 s.a.hi, .int .i64 s.b.lo, .int .i64 s.b.hi, .int .i64 s.half.lo, .int .i64 s.half.hi, .int .i64 s.peak.lo, .int .i64 s.peak.hi, .slice p n c] wr ∧ BoxIs w3.heap.size #[.int .i64 bx, .int .i64 bx, .int .i64 bY, .int .i64 bY] wr ∧ (∀ a, q9 = some a → w5.heap.size ≤ a.block))
        case first =>
          obtain ⟨wd, hwd⟩ : ∃ V, w5.drew = V := ⟨_, rfl⟩
          have HD := hid H5.out.drew
          replace HX := hid (HX.out.below (Below.refl _ _).drew)
          replace HY := hid (HY.out.below (Below.refl _ _).drew)
          replace HR := hid (HR.out.below (Below.refl _ _).drew)
          rw [hwd] at HD HX HY HR
          have HWD : Hid (Below w5.heap.size w5 wd) := hid (by rw [← hwd]; exact (Below.refl _ _).drew)
          have hB : Hid (Below wd.heap.size wd wd) := hid (Below.refl _ _)
          have HBL : Hid (ba < wd.heap.size) := hid HX.out.1
          have HLO := hid HD.out.size
          have HBK : Hid (ba ≤ w5.heap.size) := hid (by have h1 := HBL.out; rw [← hwd] at h1; exact Nat.le_of_lt h1)
          refine wp_region_held_drew (S := fun V => Boxed1 w #[.int .i64 s.wide, .int .i64 s.high, .int .i64 s.fall, .int .i64 s.a.lo, .int .i64 s.a.hi, .int .i64 s.b.lo, .int .i64 s.b.hi, .int .i64 s.half.lo, .int .i64 s.half.hi, .int .i64 s.peak.lo, .int .i64 s.peak.hi, .slice p n c] 26 V ∧ Below ba wd V) (by kernel_rfl) (by rw [hwd]; exact ⟨HD.out, Below.refl _ _⟩) (fun hS => ?_)
          rw [hwd] at hS ⊢
          clear hwd
          simp only [List.size_toArray, List.length_cons, List.length_nil, Nat.reduceAdd, Array.replicate_succ, Array.replicate_zero, List.push_toArray, List.nil_append, List.cons_append]
          refine wpAnyH_take (i := 1) (v := ?_) rfl (by kernel_rfl) (by kernel_rfl) (by kernel_rfl) (fun _ _ _ h => h) (Or.inl ⟨by rfl, fun V hV => ?_⟩) (by assumption) ?_
          rotate_left
          · go_simp
            try with_reducible rfl
          try simp only [Act.put, List.getElem_toArray, List.getElem_cons_zero, List.getElem_cons_succ, List.setIfInBounds_toArray, List.set_cons_zero, List.set_cons_succ]
          refine wpAnyH_take (i := 2) (v := ?_) rfl (by kernel_rfl) (by kernel_rfl) (by kernel_rfl) (fun _ _ _ h => h) (Or.inl ⟨by rfl, fun V hV => ?_⟩) (by assumption) ?_
          rotate_left
          · have e11 := (StoAt.of hV.1.cell).c11; go_simp
            try with_reducible rfl
          try simp only [Act.put, List.getElem_toArray, List.getElem_cons_zero, List.getElem_cons_succ, List.setIfInBounds_toArray, List.set_cons_zero, List.set_cons_succ]
          refine wpAnyH_take (i := 4) (v := ?_) rfl (by kernel_rfl) (by kernel_rfl) (by kernel_rfl) (fun _ _ _ h => h) (Or.inl ⟨by rfl, fun V hV => ?_⟩) (by assumption) ?_
          rotate_left
          · go_simp
            try with_reducible rfl
          try simp only [Act.put, List.getElem_toArray, List.getElem_cons_zero, List.getElem_cons_succ, List.setIfInBounds_toArray, List.set_cons_zero, List.set_cons_succ]
          refine wpAnyH_take (i := 5) (v := ?_) rfl (by kernel_rfl) (by kernel_rfl) (by kernel_rfl) (fun _ _ _ h => h) (Or.inl ⟨by rfl, fun V hV => ?_⟩) (by assumption) ?_
          rotate_left
          · have hX := HR.out.keep hV.2 (Nat.lt_of_lt_of_le HRL.out HLA.out); have d0 := (hX.2 0 (.int .i64 bx) rfl).1; have d1 := (hX.2 1 (.int .i64 bx) rfl).1; have d2 := (hX.2 2 (.int .i64 bY) rfl).1; have d3 := (hX.2 3 (.int .i64 bY) rfl).1; go_simp
            try with_reducible rfl
          try simp only [Act.put, List.getElem_toArray, List.getElem_cons_zero, List.getElem_cons_succ, List.setIfInBounds_toArray, List.set_cons_zero, List.set_cons_succ]
          refine wpAnyH_take (i := 6) (v := ?_) rfl (by kernel_rfl) (by kernel_rfl) (by kernel_rfl) (fun _ _ _ h => h) (Or.inl ⟨by rfl, fun V hV => ?_⟩) (by assumption) ?_
          rotate_left
          · go_simp
            try with_reducible rfl
          try simp only [Act.put, List.getElem_toArray, List.getElem_cons_zero, List.getElem_cons_succ, List.setIfInBounds_toArray, List.set_cons_zero, List.set_cons_succ]
          refine wpAnyH_take (i := 7) (v := ?_) rfl (by kernel_rfl) (by kernel_rfl) (by kernel_rfl) (fun _ _ _ h => h) (Or.inl ⟨by rfl, fun V hV => ?_⟩) (by assumption) ?_
          rotate_left
          · have hX := HR.out.keep hV.2 (Nat.lt_of_lt_of_le HRL.out HLA.out); have d0 := (hX.2 0 (.int .i64 bx) rfl).1; have d1 := (hX.2 1 (.int .i64 bx) rfl).1; have d2 := (hX.2 2 (.int .i64 bY) rfl).1; have d3 := (hX.2 3 (.int .i64 bY) rfl).1; go_simp
            try with_reducible rfl
          try simp only [Act.put, List.getElem_toArray, List.getElem_cons_zero, List.getElem_cons_succ, List.setIfInBounds_toArray, List.set_cons_zero, List.set_cons_succ]
          refine wpAnyH_take (i := 8) (v := ?_) rfl (by kernel_rfl) (by kernel_rfl) (by kernel_rfl) (fun _ _ _ h => h) (Or.inl ⟨by rfl, fun V hV => ?_⟩) (by assumption) ?_
          rotate_left
          · go_simp
            try with_reducible rfl
          try simp only [Act.put, List.getElem_toArray, List.getElem_cons_zero, List.getElem_cons_succ, List.setIfInBounds_toArray, List.set_cons_zero, List.set_cons_succ]
          refine wpAnyH_take (i := 9) (v := ?_) rfl (by kernel_rfl) (by kernel_rfl) (by kernel_rfl) (fun _ _ _ h => h) (Or.inl ⟨by rfl, fun V hV => ?_⟩) (by assumption) ?_
          rotate_left
          · go_simp
            try with_reducible rfl
          try simp only [Act.put, List.getElem_toArray, List.getElem_cons_zero, List.getElem_cons_succ, List.setIfInBounds_toArray, List.set_cons_zero, List.set_cons_succ]
          refine wpAnyH_ready (rs := [0, 10]) (by kernel_rfl) (by simp) ?_
          refine AllReadyH.cons (o := _) rfl (fun K hK => ?_) ?_
          · skip
            obtain ⟨v0, hv0⟩ : ∃ V, wd.alloc (.cells #[] 61) = V := ⟨_, rfl⟩
            have hb : Below wd.heap.size wd v0 := by rw [← hv0]; exact (Below.refl _ _).alloc (Nat.le_refl _) _
            have hz0 : Hid (v0.heap.size = wd.heap.size + 1) := by show _ = _; rw [← hv0]; exact World.size_alloc _ _
            have HO : Hid (OwnRows cellsK 7 61 v0 wd.heap.size (.slice (some ⟨wd.heap.size, 0, none⟩) 0 0) []) := by show OwnRows _ _ _ _ _ _ _; rw [← hv0]; exact World.ownsRow_lit wd #[] 0 hB.out.size (by decide) rfl
            have HNX := hid (show Boxed1 w #[.int .i64 s.wide, .int .i64 s.high, .int .i64 s.fall, .int .i64 s.a.lo, .int .i64 s.a.hi, .int .i64 s.b.lo, .int .i64 s.b.hi, .int .i64 s.half.lo, .int .i64 s.half.hi, .int .i64 s.peak.lo, .int .i64 s.peak.hi, .slice p n c] 26 v0 ∧ Below ba wd v0 from ⟨hS.1.step hb, hS.2.trans (hb.mono (Nat.le_of_lt (Nat.lt_of_lt_of_le HBL.out hB.out.size)))⟩)
            replace hB := hid (hB.out.trans (hb.mono hB.out.size))
            clear hb hS
            go_simp
            refine hK.out _ _ (HNX.out) (fun hS => ?_)
            clear hK K
            try simp only [List.setIfInBounds_toArray, List.set_cons_zero]
            refine wpAnyH_ready (rs := [3, 10]) (by kernel_rfl) (by simp) ?_
            refine AllReadyH.cons (o := _) rfl (fun K hK => ?_) ?_
            · skip
              refine step_append_crds (by rfl) (.tmp 58) (.tmp 60) (by rfl) wd.heap.size _ [] p n c s.cards HO.out (by rfl) (by rfl) (HC.out.below hS.1.below) (by simp) (by have := HN9.out; omega) hB.out.size ?_
              intro a3 v3 ho3 hb hkk
              rw [List.nil_append] at ho3
              have HO3 := hid ho3
              have HNX := hid (show Boxed1 w #[.int .i64 s.wide, .int .i64 s.high, .int .i64 s.fall, .int .i64 s.a.lo, .int .i64 s.a.hi, .int .i64 s.b.lo, .int .i64 s.b.hi, .int .i64 s.half.lo, .int .i64 s.half.hi, .int .i64 s.peak.lo, .int .i64 s.peak.hi, .slice p n c] 26 v3 ∧ Below ba wd v3 from ⟨hS.1.step' (hb.mono HLO.out), hS.2.trans (hb.mono (Nat.le_of_lt HBL.out))⟩)
              replace hB := hid (hB.out.trans hb)
              clear hb hkk ho3 HO hS
              refine hK.out _ _ (HNX.out) (fun hS => ?_)
              clear hK K
              try simp only [Act.put, List.getElem_toArray, List.getElem_cons_zero, List.getElem_cons_succ, List.setIfInBounds_toArray, List.set_cons_zero, List.set_cons_succ]
              refine wpAnyH_ready (rs := [10]) (by kernel_rfl) (by simp) ?_
              refine AllReadyH.cons (o := _) rfl (fun K hK => ?_) AllReadyH.nil
              obtain ⟨v10, hv10⟩ : ∃ V, v3.alloc (.cells #[.int .i64 bx, .int .i64 bx, .int .i64 bY, .int .i64 bY, .bool true, .int .i64 0, .int .i64 9] 61) = V := ⟨_, rfl⟩
              have hb : Below v3.heap.size v3 v10 := by rw [← hv10]; exact (Below.refl _ _).alloc (Nat.le_refl _) _
              have hz10 : Hid (v10.heap.size = v3.heap.size + 1) := by show _ = _; rw [← hv10]; exact World.size_alloc _ _
              have H1 : Hid (CrdsAt v10 (some ⟨v3.heap.size, 0, none⟩) 1 [(hailK bx bY)]) := by show CrdsAt _ _ _ _; rw [← hv10]; exact crds_iff.2 (crd_lit (hailK bx bY) 61)
              replace HO3 := hid (HO3.out.below hb)
              have HNX := hid (show Boxed1 w #[.int .i64 s.wide, .int .i64 s.high, .int .i64 s.fall, .int .i64 s.a.lo, .int .i64 s.a.hi, .int .i64 s.b.lo, .int .i64 s.b.hi, .int .i64 s.half.lo, .int .i64 s.half.hi, .int .i64 s.peak.lo, .int .i64 s.peak.hi, .slice p n c] 26 v10 ∧ Below ba wd v10 from ⟨hS.1.step hb, hS.2.trans (hb.mono (Nat.le_of_lt (Nat.lt_of_lt_of_le HBL.out hB.out.size)))⟩)
              replace hB := hid (hB.out.trans (hb.mono hB.out.size))
              clear hb hS
              go_simp
              refine hK.out _ _ (HNX.out) (fun hS => ?_)
              clear hK K
              try simp only [List.setIfInBounds_toArray, List.set_cons_zero, List.set_cons_succ]
              refine wpAnyH_ready (rs := [11]) (by kernel_rfl) (by simp) ?_
              refine AllReadyH.cons (o := _) rfl (fun K hK => ?_) AllReadyH.nil
              refine step_append_crds (by rfl) (.tmp 61) (.tmp 68) (by rfl) wd.heap.size _ s.cards _ 1 1 [(hailK bx bY)] HO3.out (by rfl) (by rfl) H1.out (by have h1 := HC.out.1; have := HN9.out; omega) (by omega) hB.out.size ?_
              intro a11 v11 ho6 hb hkk
              have HNX := hid (show Boxed1 w #[.int .i64 s.wide, .int .i64 s.high, .int .i64 s.fall, .int .i64 s.a.lo, .int .i64 s.a.hi, .int .i64 s.b.lo, .int .i64 s.b.hi, .int .i64 s.half.lo, .int .i64 s.half.hi, .int .i64 s.peak.lo, .int .i64 s.peak.hi, .slice p n c] 26 v11 ∧ Below ba wd v11 from ⟨hS.1.step' (hb.mono HLO.out), hS.2.trans (hb.mono (Nat.le_of_lt HBL.out))⟩)
              replace hB := hid (hB.out.trans hb)
              clear hb hkk H1 HO3 hS
              obtain ⟨q9, d9, rfl, hq9⟩ := ho6.slice cellsK_len
              obtain ⟨m9, hm9⟩ : ∃ a, (s.cards ++ [(hailK bx bY)]).length = a := ⟨_, rfl⟩
              rw [hm9] at hq9 ho6 ⊢
              have HQ9 := hid (crds_iff.2 hq9); have HO6 := hid ho6
              clear hq9 ho6 hm9
              refine hK.out _ _ (HNX.out) (fun hS => ?_)
              clear hK K
              try simp only [Act.put, List.getElem_toArray, List.getElem_cons_zero, List.getElem_cons_succ, List.setIfInBounds_toArray, List.set_cons_zero, List.set_cons_succ]
              refine wpAnyH_take (i := 12) (v := ?_) rfl (by kernel_rfl) (by kernel_rfl) (by kernel_rfl) (fun _ _ _ h => h) (Or.inl ⟨by rfl, fun V hV => ?_⟩) (by assumption) ?_
              rotate_left
              · go_simp
                try with_reducible rfl
              try simp only [Act.put, List.getElem_toArray, List.getElem_cons_zero, List.getElem_cons_succ, List.setIfInBounds_toArray, List.set_cons_zero, List.set_cons_succ]
              refine wpAnyH_ready (rs := [13]) (by kernel_rfl) (by simp) ?_
              refine AllReadyH.cons (o := _) rfl (fun K hK => ?_) AllReadyH.nil
              have HXv := hid (HX.out.keep hB.out HBL.out)
              have k11 := (HXv.out.2 11 (.slice p n c) rfl).1; have f11 := (HXv.out.2 11 (.slice p n c) rfl).2
              have HXF : Hid (BoxIs ba #[.int .i64 s.wide, .int .i64 s.high, .int .i64 s.fall, .int .i64 s.a.lo, .int .i64 s.a.hi, .int .i64 s.b.lo, .int .i64 s.b.hi, .int .i64 s.half.lo, .int .i64 s.half.hi, .int .i64 s.peak.lo, .int .i64 s.peak.hi, .slice q9 m9 d9] (v11.setCell ⟨ba, 11, none⟩ (.slice q9 m9 d9))) := hid (HXv.out.put (j := 11) (.slice q9 m9 d9))
              have HKF : Hid (CrdsAt (v11.setCell ⟨ba, 11, none⟩ (.slice q9 m9 d9)) q9 m9 (s.cards ++ [(hailK bx bY)])) := hid (HQ9.out.kept (by simp [World.setCell]) (fun a ha h0 hlt => Below.heap_setCell _ _ _ _ (by have h7 : wd.heap.size ≤ a.block := (by cases ha; exact (HO6.out.lt _ rfl).1); have h8 := HBL.out; show a.block ≠ ba; omega)))
              have HYF := hid (((HY.out.keep hB.out HY.out.1)).other (b' := ba) (k' := 11) (by have := HNE.out; omega) (.slice q9 m9 d9))
              have HRF := hid (((HR.out.keep hB.out HR.out.1)).other (b' := ba) (k' := 11) (by have := Nat.lt_of_lt_of_le HRL.out HLA.out; omega) (.slice q9 m9 d9))
              have HQB : Hid (∀ a, q9 = some a → w5.heap.size ≤ a.block) := hid (fun a ha => by have h7 : wd.heap.size ≤ a.block := (by cases ha; exact (HO6.out.lt _ rfl).1); exact Nat.le_trans HWD.out.size h7)
              have HNX := hid (show Boxed1 w #[.int .i64 s.wide, .int .i64 s.high, .int .i64 s.fall, .int .i64 s.a.lo, .int .i64 s.a.hi, .int .i64 s.b.lo, .int .i64 s.b.hi, .int .i64 s.half.lo, .int .i64 s.half.hi, .int .i64 s.peak.lo, .int .i64 s.peak.hi, .slice p n c] 26 (v11.setCell ⟨ba, 11, none⟩ (.slice q9 m9 d9)) ∧ Below ba wd (v11.setCell ⟨ba, 11, none⟩ (.slice q9 m9 d9)) from ⟨hS.1.step' ((Below.refl _ _).setCell (p := ⟨ba, 11, none⟩) HLX.out _), hS.2.setCell (p := ⟨ba, 11, none⟩) (Nat.le_refl _) _⟩)
              clear hS
              go_simp
              clear k11 f11
              generalize (v11.setCell ⟨ba, 11, none⟩ (.slice q9 m9 d9)) = v9 at HXF HKF HNX HYF HRF ⊢
              refine hK.out _ _ (HNX.out) (fun hS => ?_)
              clear hK K
              try simp only [List.setIfInBounds_toArray, List.set_cons_zero, List.set_cons_succ]
              refine wpAnyH_done (by kernel_rfl) ?_ _
              go_wp2
              go_meet
              case rel => exact ⟨q9, m9, d9, HXF.out, HKF.out, hS.1, Below.trans (HWD.out.mono HBK.out |> fun h => h) hS.2, HYF.out, HRF.out, HQB.out⟩
            refine AllReadyH.cons (o := _) rfl (fun K hK => ?_) AllReadyH.nil
            obtain ⟨v10, hv10⟩ : ∃ V, v0.alloc (.cells #[.int .i64 bx, .int .i64 bx, .int .i64 bY, .int .i64 bY, .bool true, .int .i64 0, .int .i64 9] 61) = V := ⟨_, rfl⟩
            have hb : Below v0.heap.size v0 v10 := by rw [← hv10]; exact (Below.refl _ _).alloc (Nat.le_refl _) _
            have hz10 : Hid (v10.heap.size = v0.heap.size + 1) := by show _ = _; rw [← hv10]; exact World.size_alloc _ _
            have H1 : Hid (CrdsAt v10 (some ⟨v0.heap.size, 0, none⟩) 1 [(hailK bx bY)]) := by show CrdsAt _ _ _ _; rw [← hv10]; exact crds_iff.2 (crd_lit (hailK bx bY) 61)
            replace HO := hid (HO.out.below hb)
            have HNX := hid (show Boxed1 w #[.int .i64 s.wide, .int .i64 s.high, .int .i64 s.fall, .int .i64 s.a.lo, .int .i64 s.a.hi, .int .i64 s.b.lo, .int .i64 s.b.hi, .int .i64 s.half.lo, .int .i64 s.half.hi, .int .i64 s.peak.lo, .int .i64 s.peak.hi, .slice p n c] 26 v10 ∧ Below ba wd v10 from ⟨hS.1.step hb, hS.2.trans (hb.mono (Nat.le_of_lt (Nat.lt_of_lt_of_le HBL.out hB.out.size)))⟩)
            replace hB := hid (hB.out.trans (hb.mono hB.out.size))
            clear hb hS
            go_simp
            refine hK.out _ _ (HNX.out) (fun hS => ?_)
            clear hK K
            try simp only [List.setIfInBounds_toArray, List.set_cons_zero, List.set_cons_succ]
            refine wpAnyH_ready (rs := [3]) (by kernel_rfl) (by simp) ?_
            refine AllReadyH.cons (o := _) rfl (fun K hK => ?_) AllReadyH.nil
            refine step_append_crds (by rfl) (.tmp 58) (.tmp 60) (by rfl) wd.heap.size _ [] p n c s.cards HO.out (by rfl) (by rfl) (HC.out.below hS.1.below) (by simp) (by have := HN9.out; omega) hB.out.size ?_
            intro a3 v3 ho3 hb hkk
            rw [List.nil_append] at ho3
            have HO3 := hid ho3
            replace H1 := hid (H1.out.kept hb.size (fun a ha _ hlt => hkk _ hlt (by cases ha; intro e; have e2 : v0.heap.size = wd.heap.size := (by simpa [Value.ownBlock] using e); have e3 := hz0.out; omega)))
            have HNX := hid (show Boxed1 w #[.int .i64 s.wide, .int .i64 s.high, .int .i64 s.fall, .int .i64 s.a.lo, .int .i64 s.a.hi, .int .i64 s.b.lo, .int .i64 s.b.hi, .int .i64 s.half.lo, .int .i64 s.half.hi, .int .i64 s.peak.lo, .int .i64 s.peak.hi, .slice p n c] 26 v3 ∧ Below ba wd v3 from ⟨hS.1.step' (hb.mono HLO.out), hS.2.trans (hb.mono (Nat.le_of_lt HBL.out))⟩)
            replace hB := hid (hB.out.trans hb)
            clear hb hkk ho3 HO hS
            refine hK.out _ _ (HNX.out) (fun hS => ?_)
            clear hK K
            try simp only [Act.put, List.getElem_toArray, List.getElem_cons_zero, List.getElem_cons_succ, List.setIfInBounds_toArray, List.set_cons_zero, List.set_cons_succ]
            refine wpAnyH_ready (rs := [11]) (by kernel_rfl) (by simp) ?_
            refine AllReadyH.cons (o := _) rfl (fun K hK => ?_) AllReadyH.nil
            refine step_append_crds (by rfl) (.tmp 61) (.tmp 68) (by rfl) wd.heap.size _ s.cards _ 1 1 [(hailK bx bY)] HO3.out (by rfl) (by rfl) H1.out (by have h1 := HC.out.1; have := HN9.out; omega) (by omega) hB.out.size ?_
            intro a11 v11 ho6 hb hkk
            have HNX := hid (show Boxed1 w #[.int .i64 s.wide, .int .i64 s.high, .int .i64 s.fall, .int .i64 s.a.lo, .int .i64 s.a.hi, .int .i64 s.b.lo, .int .i64 s.b.hi, .int .i64 s.half.lo, .int .i64 s.half.hi, .int .i64 s.peak.lo, .int .i64 s.peak.hi, .slice p n c] 26 v11 ∧ Below ba wd v11 from ⟨hS.1.step' (hb.mono HLO.out), hS.2.trans (hb.mono (Nat.le_of_lt HBL.out))⟩)
            replace hB := hid (hB.out.trans hb)
            clear hb hkk H1 HO3 hS
            obtain ⟨q9, d9, rfl, hq9⟩ := ho6.slice cellsK_len
            obtain ⟨m9, hm9⟩ : ∃ a, (s.cards ++ [(hailK bx bY)]).length = a := ⟨_, rfl⟩
            rw [hm9] at hq9 ho6 ⊢
            have HQ9 := hid (crds_iff.2 hq9); have HO6 := hid ho6
            clear hq9 ho6 hm9
            refine hK.out _ _ (HNX.out) (fun hS => ?_)
            clear hK K
            try simp only [Act.put, List.getElem_toArray, List.getElem_cons_zero, List.getElem_cons_succ, List.setIfInBounds_toArray, List.set_cons_zero, List.set_cons_succ]
            refine wpAnyH_take (i := 12) (v := ?_) rfl (by kernel_rfl) (by kernel_rfl) (by kernel_rfl) (fun _ _ _ h => h) (Or.inl ⟨by rfl, fun V hV => ?_⟩) (by assumption) ?_
            rotate_left
            · go_simp
              try with_reducible rfl
            try simp only [Act.put, List.getElem_toArray, List.getElem_cons_zero, List.getElem_cons_succ, List.setIfInBounds_toArray, List.set_cons_zero, List.set_cons_succ]
            refine wpAnyH_ready (rs := [13]) (by kernel_rfl) (by simp) ?_
            refine AllReadyH.cons (o := _) rfl (fun K hK => ?_) AllReadyH.nil
            have HXv := hid (HX.out.keep hB.out HBL.out)
            have k11 := (HXv.out.2 11 (.slice p n c) rfl).1; have f11 := (HXv.out.2 11 (.slice p n c) rfl).2
            have HXF : Hid (BoxIs ba #[.int .i64 s.wide, .int .i64 s.high, .int .i64 s.fall, .int .i64 s.a.lo, .int .i64 s.a.hi, .int .i64 s.b.lo, .int .i64 s.b.hi, .int .i64 s.half.lo, .int .i64 s.half.hi, .int .i64 s.peak.lo, .int .i64 s.peak.hi, .slice q9 m9 d9] (v11.setCell ⟨ba, 11, none⟩ (.slice q9 m9 d9))) := hid (HXv.out.put (j := 11) (.slice q9 m9 d9))
            have HKF : Hid (CrdsAt (v11.setCell ⟨ba, 11, none⟩ (.slice q9 m9 d9)) q9 m9 (s.cards ++ [(hailK bx bY)])) := hid (HQ9.out.kept (by simp [World.setCell]) (fun a ha h0 hlt => Below.heap_setCell _ _ _ _ (by have h7 : wd.heap.size ≤ a.block := (by cases ha; exact (HO6.out.lt _ rfl).1); have h8 := HBL.out; show a.block ≠ ba; omega)))
            have HYF := hid (((HY.out.keep hB.out HY.out.1)).other (b' := ba) (k' := 11) (by have := HNE.out; omega) (.slice q9 m9 d9))
            have HRF := hid (((HR.out.keep hB.out HR.out.1)).other (b' := ba) (k' := 11) (by have := Nat.lt_of_lt_of_le HRL.out HLA.out; omega) (.slice q9 m9 d9))
            have HQB : Hid (∀ a, q9 = some a → w5.heap.size ≤ a.block) := hid (fun a ha => by have h7 : wd.heap.size ≤ a.block := (by cases ha; exact (HO6.out.lt _ rfl).1); exact Nat.le_trans HWD.out.size h7)
            have HNX := hid (show Boxed1 w #[.int .i64 s.wide, .int .i64 s.high, .int .i64 s.fall, .int .i64 s.a.lo, .int .i64 s.a.hi, .int .i64 s.b.lo, .int .i64 s.b.hi, .int .i64 s.half.lo, .int .i64 s.half.hi, .int .i64 s.peak.lo, .int .i64 s.peak.hi, .slice p n c] 26 (v11.setCell ⟨ba, 11, none⟩ (.slice q9 m9 d9)) ∧ Below ba wd (v11.setCell ⟨ba, 11, none⟩ (.slice q9 m9 d9)) from ⟨hS.1.step' ((Below.refl _ _).setCell (p := ⟨ba, 11, none⟩) HLX.out _), hS.2.setCell (p := ⟨ba, 11, none⟩) (Nat.le_refl _) _⟩)
            clear hS
            go_simp
            clear k11 f11
            generalize (v11.setCell ⟨ba, 11, none⟩ (.slice q9 m9 d9)) = v9 at HXF HKF HNX HYF HRF ⊢
            refine hK.out _ _ (HNX.out) (fun hS => ?_)
            clear hK K
            try simp only [List.setIfInBounds_toArray, List.set_cons_zero, List.set_cons_succ]
            refine wpAnyH_done (by kernel_rfl) ?_ _
            go_wp2
            go_meet
            case rel => exact ⟨q9, m9, d9, HXF.out, HKF.out, hS.1, Below.trans (HWD.out.mono HBK.out |> fun h => h) hS.2, HYF.out, HRF.out, HQB.out⟩
          refine AllReadyH.cons (o := _) rfl (fun K hK => ?_) AllReadyH.nil
          obtain ⟨v10, hv10⟩ : ∃ V, wd.alloc (.cells #[.int .i64 bx, .int .i64 bx, .int .i64 bY, .int .i64 bY, .bool true, .int .i64 0, .int .i64 9] 61) = V := ⟨_, rfl⟩
          have hb : Below wd.heap.size wd v10 := by rw [← hv10]; exact (Below.refl _ _).alloc (Nat.le_refl _) _
          have hz10 : Hid (v10.heap.size = wd.heap.size + 1) := by show _ = _; rw [← hv10]; exact World.size_alloc _ _
          have H1 : Hid (CrdsAt v10 (some ⟨wd.heap.size, 0, none⟩) 1 [(hailK bx bY)]) := by show CrdsAt _ _ _ _; rw [← hv10]; exact crds_iff.2 (crd_lit (hailK bx bY) 61)
          have HNX := hid (show Boxed1 w #[.int .i64 s.wide, .int .i64 s.high, .int .i64 s.fall, .int .i64 s.a.lo, .int .i64 s.a.hi, .int .i64 s.b.lo, .int .i64 s.b.hi, .int .i64 s.half.lo, .int .i64 s.half.hi, .int .i64 s.peak.lo, .int .i64 s.peak.hi, .slice p n c] 26 v10 ∧ Below ba wd v10 from ⟨hS.1.step hb, hS.2.trans (hb.mono (Nat.le_of_lt (Nat.lt_of_lt_of_le HBL.out hB.out.size)))⟩)
          replace hB := hid (hB.out.trans (hb.mono hB.out.size))
          clear hb hS
          go_simp
          refine hK.out _ _ (HNX.out) (fun hS => ?_)
          clear hK K
          try simp only [List.setIfInBounds_toArray, List.set_cons_zero, List.set_cons_succ]
          refine wpAnyH_ready (rs := [0]) (by kernel_rfl) (by simp) ?_
          refine AllReadyH.cons (o := _) rfl (fun K hK => ?_) AllReadyH.nil
          obtain ⟨v0, hv0⟩ : ∃ V, v10.alloc (.cells #[] 61) = V := ⟨_, rfl⟩
          have hb : Below v10.heap.size v10 v0 := by rw [← hv0]; exact (Below.refl _ _).alloc (Nat.le_refl _) _
          have hz0 : Hid (v0.heap.size = v10.heap.size + 1) := by show _ = _; rw [← hv0]; exact World.size_alloc _ _
          have HO : Hid (OwnRows cellsK 7 61 v0 wd.heap.size (.slice (some ⟨v10.heap.size, 0, none⟩) 0 0) []) := by show OwnRows _ _ _ _ _ _ _; rw [← hv0]; exact World.ownsRow_lit v10 #[] 0 hB.out.size (by decide) rfl
          replace H1 := hid (H1.out.below hb)
          have HNX := hid (show Boxed1 w #[.int .i64 s.wide, .int .i64 s.high, .int .i64 s.fall, .int .i64 s.a.lo, .int .i64 s.a.hi, .int .i64 s.b.lo, .int .i64 s.b.hi, .int .i64 s.half.lo, .int .i64 s.half.hi, .int .i64 s.peak.lo, .int .i64 s.peak.hi, .slice p n c] 26 v0 ∧ Below ba wd v0 from ⟨hS.1.step hb, hS.2.trans (hb.mono (Nat.le_of_lt (Nat.lt_of_lt_of_le HBL.out hB.out.size)))⟩)
          replace hB := hid (hB.out.trans (hb.mono hB.out.size))
          clear hb hS
          go_simp
          refine hK.out _ _ (HNX.out) (fun hS => ?_)
          clear hK K
          try simp only [List.setIfInBounds_toArray, List.set_cons_zero]
          refine wpAnyH_ready (rs := [3]) (by kernel_rfl) (by simp) ?_
          refine AllReadyH.cons (o := _) rfl (fun K hK => ?_) AllReadyH.nil
          refine step_append_crds (by rfl) (.tmp 58) (.tmp 60) (by rfl) wd.heap.size _ [] p n c s.cards HO.out (by rfl) (by rfl) (HC.out.below hS.1.below) (by simp) (by have := HN9.out; omega) hB.out.size ?_
          intro a3 v3 ho3 hb hkk
          rw [List.nil_append] at ho3
          have HO3 := hid ho3
          replace H1 := hid (H1.out.kept hb.size (fun a ha _ hlt => hkk _ hlt (by cases ha; intro e; have e2 : wd.heap.size = v10.heap.size := (by simpa [Value.ownBlock] using e); have e3 := hz10.out; omega)))
          have HNX := hid (show Boxed1 w #[.int .i64 s.wide, .int .i64 s.high, .int .i64 s.fall, .int .i64 s.a.lo, .int .i64 s.a.hi, .int .i64 s.b.lo, .int .i64 s.b.hi, .int .i64 s.half.lo, .int .i64 s.half.hi, .int .i64 s.peak.lo, .int .i64 s.peak.hi, .slice p n c] 26 v3 ∧ Below ba wd v3 from ⟨hS.1.step' (hb.mono HLO.out), hS.2.trans (hb.mono (Nat.le_of_lt HBL.out))⟩)
          replace hB := hid (hB.out.trans hb)
          clear hb hkk ho3 HO hS
          refine hK.out _ _ (HNX.out) (fun hS => ?_)
          clear hK K
          try simp only [Act.put, List.getElem_toArray, List.getElem_cons_zero, List.getElem_cons_succ, List.setIfInBounds_toArray, List.set_cons_zero, List.set_cons_succ]
          refine wpAnyH_ready (rs := [11]) (by kernel_rfl) (by simp) ?_
          refine AllReadyH.cons (o := _) rfl (fun K hK => ?_) AllReadyH.nil
          refine step_append_crds (by rfl) (.tmp 61) (.tmp 68) (by rfl) wd.heap.size _ s.cards _ 1 1 [(hailK bx bY)] HO3.out (by rfl) (by rfl) H1.out (by have h1 := HC.out.1; have := HN9.out; omega) (by omega) hB.out.size ?_
          intro a11 v11 ho6 hb hkk
          have HNX := hid (show Boxed1 w #[.int .i64 s.wide, .int .i64 s.high, .int .i64 s.fall, .int .i64 s.a.lo, .int .i64 s.a.hi, .int .i64 s.b.lo, .int .i64 s.b.hi, .int .i64 s.half.lo, .int .i64 s.half.hi, .int .i64 s.peak.lo, .int .i64 s.peak.hi, .slice p n c] 26 v11 ∧ Below ba wd v11 from ⟨hS.1.step' (hb.mono HLO.out), hS.2.trans (hb.mono (Nat.le_of_lt HBL.out))⟩)
          replace hB := hid (hB.out.trans hb)
          clear hb hkk H1 HO3 hS
          obtain ⟨q9, d9, rfl, hq9⟩ := ho6.slice cellsK_len
          obtain ⟨m9, hm9⟩ : ∃ a, (s.cards ++ [(hailK bx bY)]).length = a := ⟨_, rfl⟩
          rw [hm9] at hq9 ho6 ⊢
          have HQ9 := hid (crds_iff.2 hq9); have HO6 := hid ho6
          clear hq9 ho6 hm9
          refine hK.out _ _ (HNX.out) (fun hS => ?_)
          clear hK K
          try simp only [Act.put, List.getElem_toArray, List.getElem_cons_zero, List.getElem_cons_succ, List.setIfInBounds_toArray, List.set_cons_zero, List.set_cons_succ]
          refine wpAnyH_take (i := 12) (v := ?_) rfl (by kernel_rfl) (by kernel_rfl) (by kernel_rfl) (fun _ _ _ h => h) (Or.inl ⟨by rfl, fun V hV => ?_⟩) (by assumption) ?_
          rotate_left
          · go_simp
            try with_reducible rfl
          try simp only [Act.put, List.getElem_toArray, List.getElem_cons_zero, List.getElem_cons_succ, List.setIfInBounds_toArray, List.set_cons_zero, List.set_cons_succ]
          refine wpAnyH_ready (rs := [13]) (by kernel_rfl) (by simp) ?_
          refine AllReadyH.cons (o := _) rfl (fun K hK => ?_) AllReadyH.nil
          have HXv := hid (HX.out.keep hB.out HBL.out)
          have k11 := (HXv.out.2 11 (.slice p n c) rfl).1; have f11 := (HXv.out.2 11 (.slice p n c) rfl).2
          have HXF : Hid (BoxIs ba #[.int .i64 s.wide, .int .i64 s.high, .int .i64 s.fall, .int .i64 s.a.lo, .int .i64 s.a.hi, .int .i64 s.b.lo, .int .i64 s.b.hi, .int .i64 s.half.lo, .int .i64 s.half.hi, .int .i64 s.peak.lo, .int .i64 s.peak.hi, .slice q9 m9 d9] (v11.setCell ⟨ba, 11, none⟩ (.slice q9 m9 d9))) := hid (HXv.out.put (j := 11) (.slice q9 m9 d9))
          have HKF : Hid (CrdsAt (v11.setCell ⟨ba, 11, none⟩ (.slice q9 m9 d9)) q9 m9 (s.cards ++ [(hailK bx bY)])) := hid (HQ9.out.kept (by simp [World.setCell]) (fun a ha h0 hlt => Below.heap_setCell _ _ _ _ (by have h7 : wd.heap.size ≤ a.block := (by cases ha; exact (HO6.out.lt _ rfl).1); have h8 := HBL.out; show a.block ≠ ba; omega)))
          have HYF := hid (((HY.out.keep hB.out HY.out.1)).other (b' := ba) (k' := 11) (by have := HNE.out; omega) (.slice q9 m9 d9))
          have HRF := hid (((HR.out.keep hB.out HR.out.1)).other (b' := ba) (k' := 11) (by have := Nat.lt_of_lt_of_le HRL.out HLA.out; omega) (.slice q9 m9 d9))
          have HQB : Hid (∀ a, q9 = some a → w5.heap.size ≤ a.block) := hid (fun a ha => by have h7 : wd.heap.size ≤ a.block := (by cases ha; exact (HO6.out.lt _ rfl).1); exact Nat.le_trans HWD.out.size h7)
          have HNX := hid (show Boxed1 w #[.int .i64 s.wide, .int .i64 s.high, .int .i64 s.fall, .int .i64 s.a.lo, .int .i64 s.a.hi, .int .i64 s.b.lo, .int .i64 s.b.hi, .int .i64 s.half.lo, .int .i64 s.half.hi, .int .i64 s.peak.lo, .int .i64 s.peak.hi, .slice p n c] 26 (v11.setCell ⟨ba, 11, none⟩ (.slice q9 m9 d9)) ∧ Below ba wd (v11.setCell ⟨ba, 11, none⟩ (.slice q9 m9 d9)) from ⟨hS.1.step' ((Below.refl _ _).setCell (p := ⟨ba, 11, none⟩) HLX.out _), hS.2.setCell (p := ⟨ba, 11, none⟩) (Nat.le_refl _) _⟩)
          clear hS
          go_simp
          clear k11 f11
          generalize (v11.setCell ⟨ba, 11, none⟩ (.slice q9 m9 d9)) = v9 at HXF HKF HNX HYF HRF ⊢
          refine hK.out _ _ (HNX.out) (fun hS => ?_)
          clear hK K
          try simp only [List.setIfInBounds_toArray, List.set_cons_zero, List.set_cons_succ]
          refine wpAnyH_done (by kernel_rfl) ?_ _
          go_wp2
          go_meet
          case rel => exact ⟨q9, m9, d9, HXF.out, HKF.out, hS.1, Below.trans (HWD.out.mono HBK.out |> fun h => h) hS.2, HYF.out, HRF.out, HQB.out⟩
        case rest =>
          obtain ⟨qa, ma, da, hx, hkx, hw, hbw, hy, hr, hqb⟩ := hcut
          clear HX HY HR
          have HX : Hid (BoxIs ba #[.int .i64 (plusS s (hailK bx bY)).wide, .int .i64 (plusS s (hailK bx bY)).high, .int .i64 (plusS s (hailK bx bY)).fall, .int .i64 (plusS s (hailK bx bY)).a.lo, .int .i64 (plusS s (hailK bx bY)).a.hi, .int .i64 (plusS s (hailK bx bY)).b.lo, .int .i64 (plusS s (hailK bx bY)).b.hi, .int .i64 (plusS s (hailK bx bY)).half.lo, .int .i64 (plusS s (hailK bx bY)).half.hi, .int .i64 (plusS s (hailK bx bY)).peak.lo, .int .i64 (plusS s (hailK bx bY)).peak.hi, .slice qa ma da] wc) := hid hx; have HKA : Hid (CrdsAt wc qa ma (plusS s (hailK bx bY)).cards) := hid hkx; have HY := hid hy; have HR := hid hr; have H6 := hid hw
          have HQA : Hid (∀ a, qa = some a → w5.heap.size ≤ a.block) := hid hqb
          clear hx hkx hw hbw hy hr hqb
          generalize wc = w6 at HX HY HKA HR H6 ⊢
          have HZ := HX
          have HX := HY
          clear HY
          go_upto_region 11 with fail
          go_cut [] from 16 (fun wr => ∃ q9 m9 d9, BoxIs bb #[.int .i64 s.wide, .int .i64 s.high, .int .i64 s.fall, .int .i64 s.a.lo, .int .i64 s.a.hi, .int .i64 s.b.lo, .int .i64 s.b.hi, .int .i64 s.half.lo, .int .i64 s.half.hi, .int .i64 s.peak.lo, .int .i64 s.peak.hi, .slice q9 m9 d9] wr ∧ CrdsAt wr q9 m9 (s.cards ++ [(dryK bx bY)]) ∧ Boxed1 w #[.int .i64 s.wide, .int .i64 s.high, .int .i64 s.fall, .int .i64 s.a.lo, .int .i64 s.a.hi, .int .i64 s.b.lo, .int .i64 s.b.hi, .int .i64 s.half.lo, .int .i64 s.half.hi, .int .i64 s.peak.lo, .int .i64 s.peak.hi, .slice p n c] 26 wr ∧ Below bb w6 wr ∧ BoxIs ba #[.int .i64 (plusS s (hailK bx bY)).wide, .int .i64 (plusS s (hailK bx bY)).high, .int .i64 (plusS s (hailK bx bY)).fall, .int .i64 (plusS s (hailK bx bY)).a.lo, .int .i64 (plusS s (hailK bx bY)).a.hi, .int .i64 (plusS s (hailK bx bY)).b.lo, .int .i64 (plusS s (hailK bx bY)).b.hi, .int .i64 (plusS s (hailK bx bY)).half.lo, .int .i64 (plusS s (hailK bx bY)).half.hi, .int .i64 (plusS s (hailK bx bY)).peak.lo, .int .i64 (plusS s (hailK bx bY)).peak.hi, .slice qa ma da] wr ∧ BoxIs w3.heap.size #[.int .i64 bx, .int .i64 bx, .int .i64 bY, .int .i64 bY] wr ∧ CrdsAt wr qa ma (plusS s (hailK bx bY)).cards)
          case first =>
            obtain ⟨wd, hwd⟩ : ∃ V, w6.drew = V := ⟨_, rfl⟩
            have HD := hid H6.out.drew
            replace HX := hid (HX.out.below (Below.refl _ _).drew)
            replace HZ := hid (HZ.out.below (Below.refl _ _).drew)
            replace HR := hid (HR.out.below (Below.refl _ _).drew)
            replace HKA := hid (HKA.out.below (Below.refl _ _).drew)
            rw [hwd] at HD HX HZ HR HKA
            have HWD : Hid (Below w6.heap.size w6 wd) := hid (by rw [← hwd]; exact (Below.refl _ _).drew)
            have hB : Hid (Below wd.heap.size wd wd) := hid (Below.refl _ _)
            have HBL : Hid (bb < wd.heap.size) := hid HX.out.1
            have HLO := hid HD.out.size
            have HBK : Hid (bb ≤ w6.heap.size) := hid (by have h1 := HBL.out; rw [← hwd] at h1; exact Nat.le_of_lt h1)
            refine wp_region_held_drew (S := fun V => Boxed1 w #[.int .i64 s.wide, .int .i64 s.high, .int .i64 s.fall, .int .i64 s.a.lo, .int .i64 s.a.hi, .int .i64 s.b.lo, .int .i64 s.b.hi, .int .i64 s.half.lo, .int .i64 s.half.hi, .int .i64 s.peak.lo, .int .i64 s.peak.hi, .slice p n c] 26 V ∧ Below bb wd V) (by kernel_rfl) (by rw [hwd]; exact ⟨HD.out, Below.refl _ _⟩) (fun hS => ?_)
            rw [hwd] at hS ⊢
            clear hwd
            simp only [List.size_toArray, List.length_cons, List.length_nil, Nat.reduceAdd, Array.replicate_succ, Array.replicate_zero, List.push_toArray, List.nil_append, List.cons_append]
            refine wpAnyH_take (i := 1) (v := ?_) rfl (by kernel_rfl) (by kernel_rfl) (by kernel_rfl) (fun _ _ _ h => h) (Or.inl ⟨by rfl, fun V hV => ?_⟩) (by assumption) ?_
            rotate_left
            · go_simp
              try with_reducible rfl
            try simp only [Act.put, List.getElem_toArray, List.getElem_cons_zero, List.getElem_cons_succ, List.setIfInBounds_toArray, List.set_cons_zero, List.set_cons_succ]
            refine wpAnyH_take (i := 2) (v := ?_) rfl (by kernel_rfl) (by kernel_rfl) (by kernel_rfl) (fun _ _ _ h => h) (Or.inl ⟨by rfl, fun V hV => ?_⟩) (by assumption) ?_
            rotate_left
            · have e11 := (StoAt.of hV.1.cell).c11; go_simp
              try with_reducible rfl
            try simp only [Act.put, List.getElem_toArray, List.getElem_cons_zero, List.getElem_cons_succ, List.setIfInBounds_toArray, List.set_cons_zero, List.set_cons_succ]
            refine wpAnyH_take (i := 4) (v := ?_) rfl (by kernel_rfl) (by kernel_rfl) (by kernel_rfl) (fun _ _ _ h => h) (Or.inl ⟨by rfl, fun V hV => ?_⟩) (by assumption) ?_
            rotate_left
            · go_simp
              try with_reducible rfl
            try simp only [Act.put, List.getElem_toArray, List.getElem_cons_zero, List.getElem_cons_succ, List.setIfInBounds_toArray, List.set_cons_zero, List.set_cons_succ]
            refine wpAnyH_take (i := 5) (v := ?_) rfl (by kernel_rfl) (by kernel_rfl) (by kernel_rfl) (fun _ _ _ h => h) (Or.inl ⟨by rfl, fun V hV => ?_⟩) (by assumption) ?_
            rotate_left
            · have hX := HR.out.keep hV.2 (Nat.lt_of_lt_of_le HRL.out HLB.out); have d0 := (hX.2 0 (.int .i64 bx) rfl).1; have d1 := (hX.2 1 (.int .i64 bx) rfl).1; have d2 := (hX.2 2 (.int .i64 bY) rfl).1; have d3 := (hX.2 3 (.int .i64 bY) rfl).1; go_simp
              try with_reducible rfl
            try simp only [Act.put, List.getElem_toArray, List.getElem_cons_zero, List.getElem_cons_succ, List.setIfInBounds_toArray, List.set_cons_zero, List.set_cons_succ]
            refine wpAnyH_take (i := 6) (v := ?_) rfl (by kernel_rfl) (by kernel_rfl) (by kernel_rfl) (fun _ _ _ h => h) (Or.inl ⟨by rfl, fun V hV => ?_⟩) (by assumption) ?_
            rotate_left
            · go_simp
              try with_reducible rfl
            try simp only [Act.put, List.getElem_toArray, List.getElem_cons_zero, List.getElem_cons_succ, List.setIfInBounds_toArray, List.set_cons_zero, List.set_cons_succ]
            refine wpAnyH_take (i := 7) (v := ?_) rfl (by kernel_rfl) (by kernel_rfl) (by kernel_rfl) (fun _ _ _ h => h) (Or.inl ⟨by rfl, fun V hV => ?_⟩) (by assumption) ?_
            rotate_left
            · have hX := HR.out.keep hV.2 (Nat.lt_of_lt_of_le HRL.out HLB.out); have d0 := (hX.2 0 (.int .i64 bx) rfl).1; have d1 := (hX.2 1 (.int .i64 bx) rfl).1; have d2 := (hX.2 2 (.int .i64 bY) rfl).1; have d3 := (hX.2 3 (.int .i64 bY) rfl).1; go_simp
              try with_reducible rfl
            try simp only [Act.put, List.getElem_toArray, List.getElem_cons_zero, List.getElem_cons_succ, List.setIfInBounds_toArray, List.set_cons_zero, List.set_cons_succ]
            refine wpAnyH_take (i := 8) (v := ?_) rfl (by kernel_rfl) (by kernel_rfl) (by kernel_rfl) (fun _ _ _ h => h) (Or.inl ⟨by rfl, fun V hV => ?_⟩) (by assumption) ?_
            rotate_left
            · go_simp
              try with_reducible rfl
            try simp only [Act.put, List.getElem_toArray, List.getElem_cons_zero, List.getElem_cons_succ, List.setIfInBounds_toArray, List.set_cons_zero, List.set_cons_succ]
            refine wpAnyH_ready (rs := [0, 9]) (by kernel_rfl) (by simp) ?_
            refine AllReadyH.cons (o := _) rfl (fun K hK => ?_) ?_
            · skip
              obtain ⟨v0, hv0⟩ : ∃ V, wd.alloc (.cells #[] 61) = V := ⟨_, rfl⟩
              have hb : Below wd.heap.size wd v0 := by rw [← hv0]; exact (Below.refl _ _).alloc (Nat.le_refl _) _
              have hz0 : Hid (v0.heap.size = wd.heap.size + 1) := by show _ = _; rw [← hv0]; exact World.size_alloc _ _
              have HO : Hid (OwnRows cellsK 7 61 v0 wd.heap.size (.slice (some ⟨wd.heap.size, 0, none⟩) 0 0) []) := by show OwnRows _ _ _ _ _ _ _; rw [← hv0]; exact World.ownsRow_lit wd #[] 0 hB.out.size (by decide) rfl
              have HNX := hid (show Boxed1 w #[.int .i64 s.wide, .int .i64 s.high, .int .i64 s.fall, .int .i64 s.a.lo, .int .i64 s.a.hi, .int .i64 s.b.lo, .int .i64 s.b.hi, .int .i64 s.half.lo, .int .i64 s.half.hi, .int .i64 s.peak.lo, .int .i64 s.peak.hi, .slice p n c] 26 v0 ∧ Below bb wd v0 from ⟨hS.1.step hb, hS.2.trans (hb.mono (Nat.le_of_lt (Nat.lt_of_lt_of_le HBL.out hB.out.size)))⟩)
              replace hB := hid (hB.out.trans (hb.mono hB.out.size))
              clear hb hS
              go_simp
              refine hK.out _ _ (HNX.out) (fun hS => ?_)
              clear hK K
              try simp only [List.setIfInBounds_toArray, List.set_cons_zero]
              refine wpAnyH_ready (rs := [3, 9]) (by kernel_rfl) (by simp) ?_
              refine AllReadyH.cons (o := _) rfl (fun K hK => ?_) ?_
              · skip
                refine step_append_crds (by rfl) (.tmp 71) (.tmp 73) (by rfl) wd.heap.size _ [] p n c s.cards HO.out (by rfl) (by rfl) (HC.out.below hS.1.below) (by simp) (by have := HN9.out; omega) hB.out.size ?_
                intro a3 v3 ho3 hb hkk
                rw [List.nil_append] at ho3
                have HO3 := hid ho3
                have HNX := hid (show Boxed1 w #[.int .i64 s.wide, .int .i64 s.high, .int .i64 s.fall, .int .i64 s.a.lo, .int .i64 s.a.hi, .int .i64 s.b.lo, .int .i64 s.b.hi, .int .i64 s.half.lo, .int .i64 s.half.hi, .int .i64 s.peak.lo, .int .i64 s.peak.hi, .slice p n c] 26 v3 ∧ Below bb wd v3 from ⟨hS.1.step' (hb.mono HLO.out), hS.2.trans (hb.mono (Nat.le_of_lt HBL.out))⟩)
                replace hB := hid (hB.out.trans hb)
                clear hb hkk ho3 HO hS
                refine hK.out _ _ (HNX.out) (fun hS => ?_)
                clear hK K
                try simp only [Act.put, List.getElem_toArray, List.getElem_cons_zero, List.getElem_cons_succ, List.setIfInBounds_toArray, List.set_cons_zero, List.set_cons_succ]
                refine wpAnyH_ready (rs := [9]) (by kernel_rfl) (by simp) ?_
                refine AllReadyH.cons (o := _) rfl (fun K hK => ?_) AllReadyH.nil
                obtain ⟨v9, hv9⟩ : ∃ V, v3.alloc (.cells #[.int .i64 bx, .int .i64 bx, .int .i64 bY, .int .i64 bY, .bool false, .int .i64 0, .int .i64 0] 61) = V := ⟨_, rfl⟩
                have hb : Below v3.heap.size v3 v9 := by rw [← hv9]; exact (Below.refl _ _).alloc (Nat.le_refl _) _
                have hz9 : Hid (v9.heap.size = v3.heap.size + 1) := by show _ = _; rw [← hv9]; exact World.size_alloc _ _
                have H1 : Hid (CrdsAt v9 (some ⟨v3.heap.size, 0, none⟩) 1 [(dryK bx bY)]) := by show CrdsAt _ _ _ _; rw [← hv9]; exact crds_iff.2 (crd_lit (dryK bx bY) 61)
                replace HO3 := hid (HO3.out.below hb)
                have HNX := hid (show Boxed1 w #[.int .i64 s.wide, .int .i64 s.high, .int .i64 s.fall, .int .i64 s.a.lo, .int .i64 s.a.hi, .int .i64 s.b.lo, .int .i64 s.b.hi, .int .i64 s.half.lo, .int .i64 s.half.hi, .int .i64 s.peak.lo, .int .i64 s.peak.hi, .slice p n c] 26 v9 ∧ Below bb wd v9 from ⟨hS.1.step hb, hS.2.trans (hb.mono (Nat.le_of_lt (Nat.lt_of_lt_of_le HBL.out hB.out.size)))⟩)
                replace hB := hid (hB.out.trans (hb.mono hB.out.size))
                clear hb hS
                go_simp
                refine hK.out _ _ (HNX.out) (fun hS => ?_)
                clear hK K
                try simp only [List.setIfInBounds_toArray, List.set_cons_zero, List.set_cons_succ]
                refine wpAnyH_ready (rs := [10]) (by kernel_rfl) (by simp) ?_
                refine AllReadyH.cons (o := _) rfl (fun K hK => ?_) AllReadyH.nil
                refine step_append_crds (by rfl) (.tmp 74) (.tmp 80) (by rfl) wd.heap.size _ s.cards _ 1 1 [(dryK bx bY)] HO3.out (by rfl) (by rfl) H1.out (by have h1 := HC.out.1; have := HN9.out; omega) (by omega) hB.out.size ?_
                intro a10 v10 ho6 hb hkk
                have HNX := hid (show Boxed1 w #[.int .i64 s.wide, .int .i64 s.high, .int .i64 s.fall, .int .i64 s.a.lo, .int .i64 s.a.hi, .int .i64 s.b.lo, .int .i64 s.b.hi, .int .i64 s.half.lo, .int .i64 s.half.hi, .int .i64 s.peak.lo, .int .i64 s.peak.hi, .slice p n c] 26 v10 ∧ Below bb wd v10 from ⟨hS.1.step' (hb.mono HLO.out), hS.2.trans (hb.mono (Nat.le_of_lt HBL.out))⟩)
                replace hB := hid (hB.out.trans hb)
                clear hb hkk H1 HO3 hS
                obtain ⟨q9, d9, rfl, hq9⟩ := ho6.slice cellsK_len
                obtain ⟨m9, hm9⟩ : ∃ a, (s.cards ++ [(dryK bx bY)]).length = a := ⟨_, rfl⟩
                rw [hm9] at hq9 ho6 ⊢
                have HQ9 := hid (crds_iff.2 hq9); have HO6 := hid ho6
                clear hq9 ho6 hm9
                refine hK.out _ _ (HNX.out) (fun hS => ?_)
                clear hK K
                try simp only [Act.put, List.getElem_toArray, List.getElem_cons_zero, List.getElem_cons_succ, List.setIfInBounds_toArray, List.set_cons_zero, List.set_cons_succ]
                refine wpAnyH_take (i := 11) (v := ?_) rfl (by kernel_rfl) (by kernel_rfl) (by kernel_rfl) (fun _ _ _ h => h) (Or.inl ⟨by rfl, fun V hV => ?_⟩) (by assumption) ?_
                rotate_left
                · go_simp
                  try with_reducible rfl
                try simp only [Act.put, List.getElem_toArray, List.getElem_cons_zero, List.getElem_cons_succ, List.setIfInBounds_toArray, List.set_cons_zero, List.set_cons_succ]
                refine wpAnyH_ready (rs := [12]) (by kernel_rfl) (by simp) ?_
                refine AllReadyH.cons (o := _) rfl (fun K hK => ?_) AllReadyH.nil
                have HXv := hid (HX.out.keep hB.out HBL.out)
                have k11 := (HXv.out.2 11 (.slice p n c) rfl).1; have f11 := (HXv.out.2 11 (.slice p n c) rfl).2
                have HXF : Hid (BoxIs bb #[.int .i64 s.wide, .int .i64 s.high, .int .i64 s.fall, .int .i64 s.a.lo, .int .i64 s.a.hi, .int .i64 s.b.lo, .int .i64 s.b.hi, .int .i64 s.half.lo, .int .i64 s.half.hi, .int .i64 s.peak.lo, .int .i64 s.peak.hi, .slice q9 m9 d9] (v10.setCell ⟨bb, 11, none⟩ (.slice q9 m9 d9))) := hid (HXv.out.put (j := 11) (.slice q9 m9 d9))
                have HKF : Hid (CrdsAt (v10.setCell ⟨bb, 11, none⟩ (.slice q9 m9 d9)) q9 m9 (s.cards ++ [(dryK bx bY)])) := hid (HQ9.out.kept (by simp [World.setCell]) (fun a ha h0 hlt => Below.heap_setCell _ _ _ _ (by have h7 : wd.heap.size ≤ a.block := (by cases ha; exact (HO6.out.lt _ rfl).1); have h8 := HBL.out; show a.block ≠ bb; omega)))
                have HZF := hid (((HZ.out.keep hB.out HZ.out.1)).other (b' := bb) (k' := 11) (by have := HNE.out; omega) (.slice q9 m9 d9))
                have HRF := hid (((HR.out.keep hB.out HR.out.1)).other (b' := bb) (k' := 11) (by have := Nat.lt_of_lt_of_le HRL.out HLB.out; omega) (.slice q9 m9 d9))
                have HKAF : Hid (CrdsAt (v10.setCell ⟨bb, 11, none⟩ (.slice q9 m9 d9)) qa ma (plusS s (hailK bx bY)).cards) := hid ((HKA.out.below hB.out).kept (by simp [World.setCell]) (fun a ha h0 hlt => Below.heap_setCell _ _ _ _ (by have h1 := HQA.out a ha; have h2 := HYL.out; show a.block ≠ bb; omega)))
                have HNX := hid (show Boxed1 w #[.int .i64 s.wide, .int .i64 s.high, .int .i64 s.fall, .int .i64 s.a.lo, .int .i64 s.a.hi, .int .i64 s.b.lo, .int .i64 s.b.hi, .int .i64 s.half.lo, .int .i64 s.half.hi, .int .i64 s.peak.lo, .int .i64 s.peak.hi, .slice p n c] 26 (v10.setCell ⟨bb, 11, none⟩ (.slice q9 m9 d9)) ∧ Below bb wd (v10.setCell ⟨bb, 11, none⟩ (.slice q9 m9 d9)) from ⟨hS.1.step' ((Below.refl _ _).setCell (p := ⟨bb, 11, none⟩) HLY.out _), hS.2.setCell (p := ⟨bb, 11, none⟩) (Nat.le_refl _) _⟩)
                clear hS
                go_simp
                clear k11 f11
                generalize (v10.setCell ⟨bb, 11, none⟩ (.slice q9 m9 d9)) = v9 at HXF HKF HNX HZF HRF HKAF ⊢
                refine hK.out _ _ (HNX.out) (fun hS => ?_)
                clear hK K
                try simp only [List.setIfInBounds_toArray, List.set_cons_zero, List.set_cons_succ]
                refine wpAnyH_done (by kernel_rfl) ?_ _
                go_wp2
                go_meet
                case rel => exact ⟨q9, m9, d9, HXF.out, HKF.out, hS.1, Below.trans (HWD.out.mono HBK.out |> fun h => h) hS.2, HZF.out, HRF.out, HKAF.out⟩
              refine AllReadyH.cons (o := _) rfl (fun K hK => ?_) AllReadyH.nil
              obtain ⟨v9, hv9⟩ : ∃ V, v0.alloc (.cells #[.int .i64 bx, .int .i64 bx, .int .i64 bY, .int .i64 bY, .bool false, .int .i64 0, .int .i64 0] 61) = V := ⟨_, rfl⟩
              have hb : Below v0.heap.size v0 v9 := by rw [← hv9]; exact (Below.refl _ _).alloc (Nat.le_refl _) _
              have hz9 : Hid (v9.heap.size = v0.heap.size + 1) := by show _ = _; rw [← hv9]; exact World.size_alloc _ _
              have H1 : Hid (CrdsAt v9 (some ⟨v0.heap.size, 0, none⟩) 1 [(dryK bx bY)]) := by show CrdsAt _ _ _ _; rw [← hv9]; exact crds_iff.2 (crd_lit (dryK bx bY) 61)
              replace HO := hid (HO.out.below hb)
              have HNX := hid (show Boxed1 w #[.int .i64 s.wide, .int .i64 s.high, .int .i64 s.fall, .int .i64 s.a.lo, .int .i64 s.a.hi, .int .i64 s.b.lo, .int .i64 s.b.hi, .int .i64 s.half.lo, .int .i64 s.half.hi, .int .i64 s.peak.lo, .int .i64 s.peak.hi, .slice p n c] 26 v9 ∧ Below bb wd v9 from ⟨hS.1.step hb, hS.2.trans (hb.mono (Nat.le_of_lt (Nat.lt_of_lt_of_le HBL.out hB.out.size)))⟩)
              replace hB := hid (hB.out.trans (hb.mono hB.out.size))
              clear hb hS
              go_simp
              refine hK.out _ _ (HNX.out) (fun hS => ?_)
              clear hK K
              try simp only [List.setIfInBounds_toArray, List.set_cons_zero, List.set_cons_succ]
              refine wpAnyH_ready (rs := [3]) (by kernel_rfl) (by simp) ?_
              refine AllReadyH.cons (o := _) rfl (fun K hK => ?_) AllReadyH.nil
              refine step_append_crds (by rfl) (.tmp 71) (.tmp 73) (by rfl) wd.heap.size _ [] p n c s.cards HO.out (by rfl) (by rfl) (HC.out.below hS.1.below) (by simp) (by have := HN9.out; omega) hB.out.size ?_
              intro a3 v3 ho3 hb hkk
              rw [List.nil_append] at ho3
              have HO3 := hid ho3
              replace H1 := hid (H1.out.kept hb.size (fun a ha _ hlt => hkk _ hlt (by cases ha; intro e; have e2 : v0.heap.size = wd.heap.size := (by simpa [Value.ownBlock] using e); have e3 := hz0.out; omega)))
              have HNX := hid (show Boxed1 w #[.int .i64 s.wide, .int .i64 s.high, .int .i64 s.fall, .int .i64 s.a.lo, .int .i64 s.a.hi, .int .i64 s.b.lo, .int .i64 s.b.hi, .int .i64 s.half.lo, .int .i64 s.half.hi, .int .i64 s.peak.lo, .int .i64 s.peak.hi, .slice p n c] 26 v3 ∧ Below bb wd v3 from ⟨hS.1.step' (hb.mono HLO.out), hS.2.trans (hb.mono (Nat.le_of_lt HBL.out))⟩)
              replace hB := hid (hB.out.trans hb)
              clear hb hkk ho3 HO hS
              refine hK.out _ _ (HNX.out) (fun hS => ?_)
              clear hK K
              try simp only [Act.put, List.getElem_toArray, List.getElem_cons_zero, List.getElem_cons_succ, List.setIfInBounds_toArray, List.set_cons_zero, List.set_cons_succ]
              refine wpAnyH_ready (rs := [10]) (by kernel_rfl) (by simp) ?_
              refine AllReadyH.cons (o := _) rfl (fun K hK => ?_) AllReadyH.nil
              refine step_append_crds (by rfl) (.tmp 74) (.tmp 80) (by rfl) wd.heap.size _ s.cards _ 1 1 [(dryK bx bY)] HO3.out (by rfl) (by rfl) H1.out (by have h1 := HC.out.1; have := HN9.out; omega) (by omega) hB.out.size ?_
              intro a10 v10 ho6 hb hkk
              have HNX := hid (show Boxed1 w #[.int .i64 s.wide, .int .i64 s.high, .int .i64 s.fall, .int .i64 s.a.lo, .int .i64 s.a.hi, .int .i64 s.b.lo, .int .i64 s.b.hi, .int .i64 s.half.lo, .int .i64 s.half.hi, .int .i64 s.peak.lo, .int .i64 s.peak.hi, .slice p n c] 26 v10 ∧ Below bb wd v10 from ⟨hS.1.step' (hb.mono HLO.out), hS.2.trans (hb.mono (Nat.le_of_lt HBL.out))⟩)
              replace hB := hid (hB.out.trans hb)
              clear hb hkk H1 HO3 hS
              obtain ⟨q9, d9, rfl, hq9⟩ := ho6.slice cellsK_len
              obtain ⟨m9, hm9⟩ : ∃ a, (s.cards ++ [(dryK bx bY)]).length = a := ⟨_, rfl⟩
              rw [hm9] at hq9 ho6 ⊢
              have HQ9 := hid (crds_iff.2 hq9); have HO6 := hid ho6
              clear hq9 ho6 hm9
              refine hK.out _ _ (HNX.out) (fun hS => ?_)
              clear hK K
              try simp only [Act.put, List.getElem_toArray, List.getElem_cons_zero, List.getElem_cons_succ, List.setIfInBounds_toArray, List.set_cons_zero, List.set_cons_succ]
              refine wpAnyH_take (i := 11) (v := ?_) rfl (by kernel_rfl) (by kernel_rfl) (by kernel_rfl) (fun _ _ _ h => h) (Or.inl ⟨by rfl, fun V hV => ?_⟩) (by assumption) ?_
              rotate_left
              · go_simp
                try with_reducible rfl
              try simp only [Act.put, List.getElem_toArray, List.getElem_cons_zero, List.getElem_cons_succ, List.setIfInBounds_toArray, List.set_cons_zero, List.set_cons_succ]
              refine wpAnyH_ready (rs := [12]) (by kernel_rfl) (by simp) ?_
              refine AllReadyH.cons (o := _) rfl (fun K hK => ?_) AllReadyH.nil
              have HXv := hid (HX.out.keep hB.out HBL.out)
              have k11 := (HXv.out.2 11 (.slice p n c) rfl).1; have f11 := (HXv.out.2 11 (.slice p n c) rfl).2
              have HXF : Hid (BoxIs bb #[.int .i64 s.wide, .int .i64 s.high, .int .i64 s.fall, .int .i64 s.a.lo, .int .i64 s.a.hi, .int .i64 s.b.lo, .int .i64 s.b.hi, .int .i64 s.half.lo, .int .i64 s.half.hi, .int .i64 s.peak.lo, .int .i64 s.peak.hi, .slice q9 m9 d9] (v10.setCell ⟨bb, 11, none⟩ (.slice q9 m9 d9))) := hid (HXv.out.put (j := 11) (.slice q9 m9 d9))
              have HKF : Hid (CrdsAt (v10.setCell ⟨bb, 11, none⟩ (.slice q9 m9 d9)) q9 m9 (s.cards ++ [(dryK bx bY)])) := hid (HQ9.out.kept (by simp [World.setCell]) (fun a ha h0 hlt => Below.heap_setCell _ _ _ _ (by have h7 : wd.heap.size ≤ a.block := (by cases ha; exact (HO6.out.lt _ rfl).1); have h8 := HBL.out; show a.block ≠ bb; omega)))
              have HZF := hid (((HZ.out.keep hB.out HZ.out.1)).other (b' := bb) (k' := 11) (by have := HNE.out; omega) (.slice q9 m9 d9))
              have HRF := hid (((HR.out.keep hB.out HR.out.1)).other (b' := bb) (k' := 11) (by have := Nat.lt_of_lt_of_le HRL.out HLB.out; omega) (.slice q9 m9 d9))
              have HKAF : Hid (CrdsAt (v10.setCell ⟨bb, 11, none⟩ (.slice q9 m9 d9)) qa ma (plusS s (hailK bx bY)).cards) := hid ((HKA.out.below hB.out).kept (by simp [World.setCell]) (fun a ha h0 hlt => Below.heap_setCell _ _ _ _ (by have h1 := HQA.out a ha; have h2 := HYL.out; show a.block ≠ bb; omega)))
              have HNX := hid (show Boxed1 w #[.int .i64 s.wide, .int .i64 s.high, .int .i64 s.fall, .int .i64 s.a.lo, .int .i64 s.a.hi, .int .i64 s.b.lo, .int .i64 s.b.hi, .int .i64 s.half.lo, .int .i64 s.half.hi, .int .i64 s.peak.lo, .int .i64 s.peak.hi, .slice p n c] 26 (v10.setCell ⟨bb, 11, none⟩ (.slice q9 m9 d9)) ∧ Below bb wd (v10.setCell ⟨bb, 11, none⟩ (.slice q9 m9 d9)) from ⟨hS.1.step' ((Below.refl _ _).setCell (p := ⟨bb, 11, none⟩) HLY.out _), hS.2.setCell (p := ⟨bb, 11, none⟩) (Nat.le_refl _) _⟩)
              clear hS
              go_simp
              clear k11 f11
              generalize (v10.setCell ⟨bb, 11, none⟩ (.slice q9 m9 d9)) = v9 at HXF HKF HNX HZF HRF HKAF ⊢
              refine hK.out _ _ (HNX.out) (fun hS => ?_)
              clear hK K
              try simp only [List.setIfInBounds_toArray, List.set_cons_zero, List.set_cons_succ]
              refine wpAnyH_done (by kernel_rfl) ?_ _
              go_wp2
              go_meet
              case rel => exact ⟨q9, m9, d9, HXF.out, HKF.out, hS.1, Below.trans (HWD.out.mono HBK.out |> fun h => h) hS.2, HZF.out, HRF.out, HKAF.out⟩
            refine AllReadyH.cons (o := _) rfl (fun K hK => ?_) AllReadyH.nil
            obtain ⟨v9, hv9⟩ : ∃ V, wd.alloc (.cells #[.int .i64 bx, .int .i64 bx, .int .i64 bY, .int .i64 bY, .bool false, .int .i64 0, .int .i64 0] 61) = V := ⟨_, rfl⟩
            have hb : Below wd.heap.size wd v9 := by rw [← hv9]; exact (Below.refl _ _).alloc (Nat.le_refl _) _
            have hz9 : Hid (v9.heap.size = wd.heap.size + 1) := by show _ = _; rw [← hv9]; exact World.size_alloc _ _
            have H1 : Hid (CrdsAt v9 (some ⟨wd.heap.size, 0, none⟩) 1 [(dryK bx bY)]) := by show CrdsAt _ _ _ _; rw [← hv9]; exact crds_iff.2 (crd_lit (dryK bx bY) 61)
            have HNX := hid (show Boxed1 w #[.int .i64 s.wide, .int .i64 s.high, .int .i64 s.fall, .int .i64 s.a.lo, .int .i64 s.a.hi, .int .i64 s.b.lo, .int .i64 s.b.hi, .int .i64 s.half.lo, .int .i64 s.half.hi, .int .i64 s.peak.lo, .int .i64 s.peak.hi, .slice p n c] 26 v9 ∧ Below bb wd v9 from ⟨hS.1.step hb, hS.2.trans (hb.mono (Nat.le_of_lt (Nat.lt_of_lt_of_le HBL.out hB.out.size)))⟩)
            replace hB := hid (hB.out.trans (hb.mono hB.out.size))
            clear hb hS
            go_simp
            refine hK.out _ _ (HNX.out) (fun hS => ?_)
            clear hK K
            try simp only [List.setIfInBounds_toArray, List.set_cons_zero, List.set_cons_succ]
            refine wpAnyH_ready (rs := [0]) (by kernel_rfl) (by simp) ?_
            refine AllReadyH.cons (o := _) rfl (fun K hK => ?_) AllReadyH.nil
            obtain ⟨v0, hv0⟩ : ∃ V, v9.alloc (.cells #[] 61) = V := ⟨_, rfl⟩
            have hb : Below v9.heap.size v9 v0 := by rw [← hv0]; exact (Below.refl _ _).alloc (Nat.le_refl _) _
            have hz0 : Hid (v0.heap.size = v9.heap.size + 1) := by show _ = _; rw [← hv0]; exact World.size_alloc _ _
            have HO : Hid (OwnRows cellsK 7 61 v0 wd.heap.size (.slice (some ⟨v9.heap.size, 0, none⟩) 0 0) []) := by show OwnRows _ _ _ _ _ _ _; rw [← hv0]; exact World.ownsRow_lit v9 #[] 0 hB.out.size (by decide) rfl
            replace H1 := hid (H1.out.below hb)
            have HNX := hid (show Boxed1 w #[.int .i64 s.wide, .int .i64 s.high, .int .i64 s.fall, .int .i64 s.a.lo, .int .i64 s.a.hi, .int .i64 s.b.lo, .int .i64 s.b.hi, .int .i64 s.half.lo, .int .i64 s.half.hi, .int .i64 s.peak.lo, .int .i64 s.peak.hi, .slice p n c] 26 v0 ∧ Below bb wd v0 from ⟨hS.1.step hb, hS.2.trans (hb.mono (Nat.le_of_lt (Nat.lt_of_lt_of_le HBL.out hB.out.size)))⟩)
            replace hB := hid (hB.out.trans (hb.mono hB.out.size))
            clear hb hS
            go_simp
            refine hK.out _ _ (HNX.out) (fun hS => ?_)
            clear hK K
            try simp only [List.setIfInBounds_toArray, List.set_cons_zero]
            refine wpAnyH_ready (rs := [3]) (by kernel_rfl) (by simp) ?_
            refine AllReadyH.cons (o := _) rfl (fun K hK => ?_) AllReadyH.nil
            refine step_append_crds (by rfl) (.tmp 71) (.tmp 73) (by rfl) wd.heap.size _ [] p n c s.cards HO.out (by rfl) (by rfl) (HC.out.below hS.1.below) (by simp) (by have := HN9.out; omega) hB.out.size ?_
            intro a3 v3 ho3 hb hkk
            rw [List.nil_append] at ho3
            have HO3 := hid ho3
            replace H1 := hid (H1.out.kept hb.size (fun a ha _ hlt => hkk _ hlt (by cases ha; intro e; have e2 : wd.heap.size = v9.heap.size := (by simpa [Value.ownBlock] using e); have e3 := hz9.out; omega)))
            have HNX := hid (show Boxed1 w #[.int .i64 s.wide, .int .i64 s.high, .int .i64 s.fall, .int .i64 s.a.lo, .int .i64 s.a.hi, .int .i64 s.b.lo, .int .i64 s.b.hi, .int .i64 s.half.lo, .int .i64 s.half.hi, .int .i64 s.peak.lo, .int .i64 s.peak.hi, .slice p n c] 26 v3 ∧ Below bb wd v3 from ⟨hS.1.step' (hb.mono HLO.out), hS.2.trans (hb.mono (Nat.le_of_lt HBL.out))⟩)
            replace hB := hid (hB.out.trans hb)
            clear hb hkk ho3 HO hS
            refine hK.out _ _ (HNX.out) (fun hS => ?_)
            clear hK K
            try simp only [Act.put, List.getElem_toArray, List.getElem_cons_zero, List.getElem_cons_succ, List.setIfInBounds_toArray, List.set_cons_zero, List.set_cons_succ]
            refine wpAnyH_ready (rs := [10]) (by kernel_rfl) (by simp) ?_
            refine AllReadyH.cons (o := _) rfl (fun K hK => ?_) AllReadyH.nil
            refine step_append_crds (by rfl) (.tmp 74) (.tmp 80) (by rfl) wd.heap.size _ s.cards _ 1 1 [(dryK bx bY)] HO3.out (by rfl) (by rfl) H1.out (by have h1 := HC.out.1; have := HN9.out; omega) (by omega) hB.out.size ?_
            intro a10 v10 ho6 hb hkk
            have HNX := hid (show Boxed1 w #[.int .i64 s.wide, .int .i64 s.high, .int .i64 s.fall, .int .i64 s.a.lo, .int .i64 s.a.hi, .int .i64 s.b.lo, .int .i64 s.b.hi, .int .i64 s.half.lo, .int .i64 s.half.hi, .int .i64 s.peak.lo, .int .i64 s.peak.hi, .slice p n c] 26 v10 ∧ Below bb wd v10 from ⟨hS.1.step' (hb.mono HLO.out), hS.2.trans (hb.mono (Nat.le_of_lt HBL.out))⟩)
            replace hB := hid (hB.out.trans hb)
            clear hb hkk H1 HO3 hS
            obtain ⟨q9, d9, rfl, hq9⟩ := ho6.slice cellsK_len
            obtain ⟨m9, hm9⟩ : ∃ a, (s.cards ++ [(dryK bx bY)]).length = a := ⟨_, rfl⟩
            rw [hm9] at hq9 ho6 ⊢
            have HQ9 := hid (crds_iff.2 hq9); have HO6 := hid ho6
            clear hq9 ho6 hm9
            refine hK.out _ _ (HNX.out) (fun hS => ?_)
            clear hK K
            try simp only [Act.put, List.getElem_toArray, List.getElem_cons_zero, List.getElem_cons_succ, List.setIfInBounds_toArray, List.set_cons_zero, List.set_cons_succ]
            refine wpAnyH_take (i := 11) (v := ?_) rfl (by kernel_rfl) (by kernel_rfl) (by kernel_rfl) (fun _ _ _ h => h) (Or.inl ⟨by rfl, fun V hV => ?_⟩) (by assumption) ?_
            rotate_left
            · go_simp
              try with_reducible rfl
            try simp only [Act.put, List.getElem_toArray, List.getElem_cons_zero, List.getElem_cons_succ, List.setIfInBounds_toArray, List.set_cons_zero, List.set_cons_succ]
            refine wpAnyH_ready (rs := [12]) (by kernel_rfl) (by simp) ?_
            refine AllReadyH.cons (o := _) rfl (fun K hK => ?_) AllReadyH.nil
            have HXv := hid (HX.out.keep hB.out HBL.out)
            have k11 := (HXv.out.2 11 (.slice p n c) rfl).1; have f11 := (HXv.out.2 11 (.slice p n c) rfl).2
            have HXF : Hid (BoxIs bb #[.int .i64 s.wide, .int .i64 s.high, .int .i64 s.fall, .int .i64 s.a.lo, .int .i64 s.a.hi, .int .i64 s.b.lo, .int .i64 s.b.hi, .int .i64 s.half.lo, .int .i64 s.half.hi, .int .i64 s.peak.lo, .int .i64 s.peak.hi, .slice q9 m9 d9] (v10.setCell ⟨bb, 11, none⟩ (.slice q9 m9 d9))) := hid (HXv.out.put (j := 11) (.slice q9 m9 d9))
            have HKF : Hid (CrdsAt (v10.setCell ⟨bb, 11, none⟩ (.slice q9 m9 d9)) q9 m9 (s.cards ++ [(dryK bx bY)])) := hid (HQ9.out.kept (by simp [World.setCell]) (fun a ha h0 hlt => Below.heap_setCell _ _ _ _ (by have h7 : wd.heap.size ≤ a.block := (by cases ha; exact (HO6.out.lt _ rfl).1); have h8 := HBL.out; show a.block ≠ bb; omega)))
            have HZF := hid (((HZ.out.keep hB.out HZ.out.1)).other (b' := bb) (k' := 11) (by have := HNE.out; omega) (.slice q9 m9 d9))
            have HRF := hid (((HR.out.keep hB.out HR.out.1)).other (b' := bb) (k' := 11) (by have := Nat.lt_of_lt_of_le HRL.out HLB.out; omega) (.slice q9 m9 d9))
            have HKAF : Hid (CrdsAt (v10.setCell ⟨bb, 11, none⟩ (.slice q9 m9 d9)) qa ma (plusS s (hailK bx bY)).cards) := hid ((HKA.out.below hB.out).kept (by simp [World.setCell]) (fun a ha h0 hlt => Below.heap_setCell _ _ _ _ (by have h1 := HQA.out a ha; have h2 := HYL.out; show a.block ≠ bb; omega)))
            have HNX := hid (show Boxed1 w #[.int .i64 s.wide, .int .i64 s.high, .int .i64 s.fall, .int .i64 s.a.lo, .int .i64 s.a.hi, .int .i64 s.b.lo, .int .i64 s.b.hi, .int .i64 s.half.lo, .int .i64 s.half.hi, .int .i64 s.peak.lo, .int .i64 s.peak.hi, .slice p n c] 26 (v10.setCell ⟨bb, 11, none⟩ (.slice q9 m9 d9)) ∧ Below bb wd (v10.setCell ⟨bb, 11, none⟩ (.slice q9 m9 d9)) from ⟨hS.1.step' ((Below.refl _ _).setCell (p := ⟨bb, 11, none⟩) HLY.out _), hS.2.setCell (p := ⟨bb, 11, none⟩) (Nat.le_refl _) _⟩)
            clear hS
            go_simp
            clear k11 f11
            generalize (v10.setCell ⟨bb, 11, none⟩ (.slice q9 m9 d9)) = v9 at HXF HKF HNX HZF HRF HKAF ⊢
            refine hK.out _ _ (HNX.out) (fun hS => ?_)
            clear hK K
            try simp only [List.setIfInBounds_toArray, List.set_cons_zero, List.set_cons_succ]
            refine wpAnyH_done (by kernel_rfl) ?_ _
            go_wp2
            go_meet
            case rel => exact ⟨q9, m9, d9, HXF.out, HKF.out, hS.1, Below.trans (HWD.out.mono HBK.out |> fun h => h) hS.2, HZF.out, HRF.out, HKAF.out⟩
          case rest =>
            obtain ⟨qd, md, dd, hx, hkx, hw, hbw, hz, hr, hka⟩ := hcut
            clear HX HZ HR HKA
            have HX : Hid (BoxIs bb #[.int .i64 (plusS s (dryK bx bY)).wide, .int .i64 (plusS s (dryK bx bY)).high, .int .i64 (plusS s (dryK bx bY)).fall, .int .i64 (plusS s (dryK bx bY)).a.lo, .int .i64 (plusS s (dryK bx bY)).a.hi, .int .i64 (plusS s (dryK bx bY)).b.lo, .int .i64 (plusS s (dryK bx bY)).b.hi, .int .i64 (plusS s (dryK bx bY)).half.lo, .int .i64 (plusS s (dryK bx bY)).half.hi, .int .i64 (plusS s (dryK bx bY)).peak.lo, .int .i64 (plusS s (dryK bx bY)).peak.hi, .slice qd md dd] wc) := hid hx; have HKD : Hid (CrdsAt wc qd md (plusS s (dryK bx bY)).cards) := hid hkx; have HZ := hid hz; have HR := hid hr; have HKA := hid hka; have H7 := hid hw
            clear hx hkx hw hbw hz hr hka HQA HYL HNE HLA HLB HRL HLW HLX HLY
            generalize wc = w7 at HX HZ HKA HKD HR H7 ⊢
            clear HR
            have HRA := hid (plus_okR HOK.out HSK1.out); have HRD2 := hid (plus_okR HOK.out HSK2.out)
            go_upto_region 12 with fail
            refine wp_region_held_drew (S := fun V => Boxed1 w #[.int .i64 s.wide, .int .i64 s.high, .int .i64 s.fall, .int .i64 s.a.lo, .int .i64 s.a.hi, .int .i64 s.b.lo, .int .i64 s.b.hi, .int .i64 s.half.lo, .int .i64 s.half.hi, .int .i64 s.peak.lo, .int .i64 s.peak.hi, .slice p n c] 26 V ∧ Below w7.heap.size w7 V) (by kernel_rfl) (⟨H7.out.drew, (Below.refl _ _).drew⟩) (fun hS => ?_)
            simp only [List.size_toArray, List.length_cons, List.length_nil, Nat.reduceAdd, Array.replicate_succ, Array.replicate_zero, List.push_toArray, List.nil_append, List.cons_append]
            refine wpAnyH_take (i := 0) (v := ?_) rfl (by kernel_rfl) (by kernel_rfl) (by kernel_rfl) (fun _ _ _ h => h) (Or.inl ⟨by rfl, fun V hV => ?_⟩) (by assumption) ?_
            rotate_left
            · have hX := HZ.out.below hV.2; have e0 := (hX.2 0 (.int .i64 (plusS s (hailK bx bY)).wide) rfl).1; have e1 := (hX.2 1 (.int .i64 (plusS s (hailK bx bY)).high) rfl).1; have e2 := (hX.2 2 (.int .i64 (plusS s (hailK bx bY)).fall) rfl).1; have e3 := (hX.2 3 (.int .i64 (plusS s (hailK bx bY)).a.lo) rfl).1; have e4 := (hX.2 4 (.int .i64 (plusS s (hailK bx bY)).a.hi) rfl).1; have e5 := (hX.2 5 (.int .i64 (plusS s (hailK bx bY)).b.lo) rfl).1; have e6 := (hX.2 6 (.int .i64 (plusS s (hailK bx bY)).b.hi) rfl).1; have e7 := (hX.2 7 (.int .i64 (plusS s (hailK bx bY)).half.lo) rfl).1; have e8 := (hX.2 8 (.int .i64 (plusS s (hailK bx bY)).half.hi) rfl).1; have e9 := (hX.2 9 (.int .i64 (plusS s (hailK bx bY)).peak.lo) rfl).1; have e10 := (hX.2 10 (.int .i64 (plusS s (hailK bx bY)).peak.hi) rfl).1; have e11 := (hX.2 11 (.slice qa ma da) rfl).1; go_simp
              try with_reducible rfl
            try simp only [Act.put, List.getElem_toArray, List.getElem_cons_zero, List.setIfInBounds_toArray, List.set_cons_zero, List.set_cons_succ]
            refine wpAnyH_take (i := 3) (v := ?_) rfl (by kernel_rfl) (by kernel_rfl) (by kernel_rfl) (fun _ _ _ h => h) (Or.inl ⟨by rfl, fun V hV => ?_⟩) (by assumption) ?_
            rotate_left
            · have hX := HX.out.below hV.2; have e0 := (hX.2 0 (.int .i64 (plusS s (dryK bx bY)).wide) rfl).1; have e1 := (hX.2 1 (.int .i64 (plusS s (dryK bx bY)).high) rfl).1; have e2 := (hX.2 2 (.int .i64 (plusS s (dryK bx bY)).fall) rfl).1; have e3 := (hX.2 3 (.int .i64 (plusS s (dryK bx bY)).a.lo) rfl).1; have e4 := (hX.2 4 (.int .i64 (plusS s (dryK bx bY)).a.hi) rfl).1; have e5 := (hX.2 5 (.int .i64 (plusS s (dryK bx bY)).b.lo) rfl).1; have e6 := (hX.2 6 (.int .i64 (plusS s (dryK bx bY)).b.hi) rfl).1; have e7 := (hX.2 7 (.int .i64 (plusS s (dryK bx bY)).half.lo) rfl).1; have e8 := (hX.2 8 (.int .i64 (plusS s (dryK bx bY)).half.hi) rfl).1; have e9 := (hX.2 9 (.int .i64 (plusS s (dryK bx bY)).peak.lo) rfl).1; have e10 := (hX.2 10 (.int .i64 (plusS s (dryK bx bY)).peak.hi) rfl).1; have e11 := (hX.2 11 (.slice qd md dd) rfl).1; go_simp
              try with_reducible rfl
            try simp only [Act.put, List.getElem_toArray, List.getElem_cons_zero, List.getElem_cons_succ, List.setIfInBounds_toArray, List.set_cons_zero, List.set_cons_succ]
            refine wpAnyH_ready (rs := [1]) (by kernel_rfl) (by simp) ?_
            refine AllReadyH.cons (o := _) rfl (fun K hK => ?_) AllReadyH.nil
            go_simp
            refine (truths7_any (plusS s (hailK bx bY)) qa ma da _ (HKA.out.below hS.2) HRA.out).mono ?_
            rintro e v1 ⟨v, rfl, hown, hb⟩
            obtain ⟨qx, dx, rfl, _⟩ := hown.slice cellsT_len
            rw [HNA.out]
            clear hown
            refine hK.out _ _ (⟨hS.1.step hb, hS.2.trans (hb.mono hS.2.size)⟩) (fun hS => ?_)
            clear hK K
            try simp only [List.setIfInBounds_toArray, List.set_cons_zero, List.set_cons_succ]
            refine wpAnyH_take (i := 2) (v := ?_) rfl (by kernel_rfl) (by kernel_rfl) (by kernel_rfl) (fun _ _ _ h => h) (Or.inl ⟨by rfl, fun V hV => ?_⟩) (by assumption) ?_
            rotate_left
            · go_simp
              try with_reducible rfl
            try simp only [Act.put, List.getElem_toArray, List.getElem_cons_zero, List.getElem_cons_succ, List.setIfInBounds_toArray, List.set_cons_zero, List.set_cons_succ]
            refine wpAnyH_ready (rs := [4]) (by kernel_rfl) (by simp) ?_
            refine AllReadyH.cons (o := _) rfl (fun K hK => ?_) AllReadyH.nil
            go_simp
            refine (truths7_any (plusS s (dryK bx bY)) qd md dd _ (HKD.out.below hS.2) HRD2.out).mono ?_
            rintro e w8 ⟨v, rfl, hown, hb⟩
            obtain ⟨qy, dy, rfl, _⟩ := hown.slice cellsT_len
            rw [HNB.out]
            clear hown
            refine hK.out _ _ (⟨hS.1.step hb, hS.2.trans (hb.mono hS.2.size)⟩) (fun hS => ?_)
            clear hK K
            try simp only [List.setIfInBounds_toArray, List.set_cons_zero, List.set_cons_succ]
            refine wpAnyH_take (i := 5) (v := ?_) rfl (by kernel_rfl) (by kernel_rfl) (by kernel_rfl) (fun _ _ _ h => h) (Or.inl ⟨by rfl, fun V hV => ?_⟩) (by assumption) ?_
            rotate_left
            · go_simp
              try with_reducible rfl
            try simp only [Act.put, List.getElem_toArray, List.getElem_cons_zero, List.getElem_cons_succ, List.setIfInBounds_toArray, List.set_cons_zero, List.set_cons_succ]
            refine wpAnyH_take (i := 6) (v := ?_) rfl (by kernel_rfl) (by kernel_rfl) (by kernel_rfl) (fun _ _ _ h => h) (Or.inl ⟨by rfl, fun V hV => ?_⟩) (by assumption) ?_
            rotate_left
            · go_simp
              try with_reducible rfl
            try simp only [Act.put, List.getElem_toArray, List.getElem_cons_zero, List.getElem_cons_succ, List.setIfInBounds_toArray, List.set_cons_zero, List.set_cons_succ]
            refine wpAnyH_take (i := 7) (v := ?_) rfl (by kernel_rfl) (by kernel_rfl) (by kernel_rfl) (fun _ _ _ h => h) (Or.inl ⟨by rfl, fun V hV => ?_⟩) (by assumption) ?_
            rotate_left
            · go_simp
              try with_reducible rfl
            try simp only [Act.put, List.getElem_toArray, List.getElem_cons_zero, List.getElem_cons_succ, List.setIfInBounds_toArray, List.set_cons_zero, List.set_cons_succ]
            refine wpAnyH_done (by kernel_rfl) ?_ _
            have H8 := hid hS.1
            clear hS HX HZ HKA HKD HRA HRD2
            have e0 := (StoAt.of H8.out.cell).c0; have e1 := (StoAt.of H8.out.cell).c1; have e2 := (StoAt.of H8.out.cell).c2; have e3 := (StoAt.of H8.out.cell).c3; have e4 := (StoAt.of H8.out.cell).c4; have e5 := (StoAt.of H8.out.cell).c5; have e6 := (StoAt.of H8.out.cell).c6; have e7 := (StoAt.of H8.out.cell).c7; have e8 := (StoAt.of H8.out.cell).c8; have e9 := (StoAt.of H8.out.cell).c9; have e10 := (StoAt.of H8.out.cell).c10; have e11 := (StoAt.of H8.out.cell).c11
            go_wp2_with fail
            (with_reducible refine (box_any s p n c wv _ HOK.out HWV.out.1 HWV.out.2).mono ?_)
            rintro e w9 ⟨rfl, hb⟩
            have H9 := hid (H8.out.step hb)
            clear e0 e1 e2 e3 e4 e5 e6 e7 e8 e9 e10 e11 hb
            obtain ⟨rx, hrx⟩ : ∃ v, boxX s wv = v := ⟨_, rfl⟩
            obtain ⟨ry, hry⟩ : ∃ v, boxY s wv = v := ⟨_, rfl⟩
            rw [hrx, hry] at HRC
            rw [hrx, hry]
            clear hrx hry
            obtain ⟨w10, hw10⟩ : ∃ V, (w9.alloc (.cells #[.int .i64 rx.lo, .int .i64 rx.hi, .int .i64 ry.lo, .int .i64 ry.hi] 64)) = V := ⟨_, rfl⟩
            have H10 : Hid (Boxed1 w #[.int .i64 s.wide, .int .i64 s.high, .int .i64 s.fall, .int .i64 s.a.lo, .int .i64 s.a.hi, .int .i64 s.b.lo, .int .i64 s.b.hi, .int .i64 s.half.lo, .int .i64 s.half.hi, .int .i64 s.peak.lo, .int .i64 s.peak.hi, .slice p n c] 26 w10) := by show Boxed1 w #[.int .i64 s.wide, .int .i64 s.high, .int .i64 s.fall, .int .i64 s.a.lo, .int .i64 s.a.hi, .int .i64 s.b.lo, .int .i64 s.b.hi, .int .i64 s.half.lo, .int .i64 s.half.hi, .int .i64 s.peak.lo, .int .i64 s.peak.hi, .slice p n c] 26 w10; rw [← hw10]; exact H9.out.alloc _
            have HR : Hid (BoxIs w9.heap.size #[.int .i64 rx.lo, .int .i64 rx.hi, .int .i64 ry.lo, .int .i64 ry.hi] w10) := by show BoxIs _ _ _; rw [← hw10]; exact BoxIs.start _ _ _
            have HBB : Hid (Below w9.heap.size w9 w10) := hid (by rw [← hw10]; exact (Below.refl _ _).alloc (Nat.le_refl _) _)
            go_upto_region 14 with fail
            clear hw10 HBB 
            have HRB : Hid ((0 ≤ rx.lo ∧ rx.lo ≤ s.wide - 1) ∧ 0 ≤ ry.lo ∧ ry.lo ≤ s.high - 1) := hid (by have h := HRC.out; rw [rectB, Bool.and_eq_true, Rng.of_iff, Rng.of_iff] at h; omega)
            obtain ⟨NN, hNN⟩ : ∃ v, worstT s (truR s) rx.lo ry.lo = v := ⟨_, rfl⟩
            have HNN := hid hNN
            have hge : B3 ≤ NN := by rw [← hNN, worst_perm (truR_perm HOK.out.pos)]; exact HMIN.out _ _ HRB.out.1.1 HRB.out.1.2 HRB.out.2.1 HRB.out.2.2
            have HGE := hid hge
            clear hNN hge
            obtain ⟨NT, hNT⟩ : ∃ N, (truR s).length = N := ⟨_, rfl⟩
            have HNT := hid hNT
            have HNT2 : Hid (NT ≤ 100000) := hid (by have := truR_len3 HOK.out; omega)
            clear hNT
            have HSM := hid (truR_small3 HOK.out); have HSS := hid HOK.out.small
            refine wp_region_held_drew (S := fun V => Boxed1 w #[.int .i64 s.wide, .int .i64 s.high, .int .i64 s.fall, .int .i64 s.a.lo, .int .i64 s.a.hi, .int .i64 s.b.lo, .int .i64 s.b.hi, .int .i64 s.half.lo, .int .i64 s.half.hi, .int .i64 s.peak.lo, .int .i64 s.peak.hi, .slice p n c] 26 V ∧ Below w10.heap.size w10 V) (by kernel_rfl) (⟨H10.out.drew, (Below.refl _ _).drew⟩) (fun hS => ?_)
            simp only [List.size_toArray, List.length_cons, List.length_nil, Nat.reduceAdd, Array.replicate_succ, Array.replicate_zero, List.push_toArray, List.nil_append, List.cons_append]
            refine wpAnyH_take (i := 0) (v := ?_) rfl (by kernel_rfl) (by kernel_rfl) (by kernel_rfl) (fun _ _ _ h => h) (Or.inl ⟨by rfl, fun V hV => ?_⟩) (by assumption) ?_
            rotate_left
            · have e0 := (StoAt.of hV.1.cell).c0; have e1 := (StoAt.of hV.1.cell).c1; have e2 := (StoAt.of hV.1.cell).c2; have e3 := (StoAt.of hV.1.cell).c3; have e4 := (StoAt.of hV.1.cell).c4; have e5 := (StoAt.of hV.1.cell).c5; have e6 := (StoAt.of hV.1.cell).c6; have e7 := (StoAt.of hV.1.cell).c7; have e8 := (StoAt.of hV.1.cell).c8; have e9 := (StoAt.of hV.1.cell).c9; have e10 := (StoAt.of hV.1.cell).c10; have e11 := (StoAt.of hV.1.cell).c11; go_simp
              try with_reducible rfl
            try simp only [Act.put, List.getElem_toArray, List.getElem_cons_zero, List.setIfInBounds_toArray, List.set_cons_zero, List.set_cons_succ]
            refine wpAnyH_take (i := 1) (v := ?_) rfl (by kernel_rfl) (by kernel_rfl) (by kernel_rfl) (fun _ _ _ h => h) (Or.inl ⟨by rfl, fun V hV => ?_⟩) (by assumption) ?_
            rotate_left
            · have e0 := (StoAt.of hV.1.cell).c0; have e1 := (StoAt.of hV.1.cell).c1; have e2 := (StoAt.of hV.1.cell).c2; have e3 := (StoAt.of hV.1.cell).c3; have e4 := (StoAt.of hV.1.cell).c4; have e5 := (StoAt.of hV.1.cell).c5; have e6 := (StoAt.of hV.1.cell).c6; have e7 := (StoAt.of hV.1.cell).c7; have e8 := (StoAt.of hV.1.cell).c8; have e9 := (StoAt.of hV.1.cell).c9; have e10 := (StoAt.of hV.1.cell).c10; have e11 := (StoAt.of hV.1.cell).c11; go_simp
              try with_reducible rfl
            try simp only [Act.put, List.getElem_toArray, List.getElem_cons_zero, List.getElem_cons_succ, List.setIfInBounds_toArray, List.set_cons_zero, List.set_cons_succ]
            refine wpAnyH_take (i := 3) (v := ?_) rfl (by kernel_rfl) (by kernel_rfl) (by kernel_rfl) (fun _ _ _ h => h) (Or.inl ⟨by rfl, fun V hV => ?_⟩) (by assumption) ?_
            rotate_left
            · go_simp
              try with_reducible rfl
            try simp only [Act.put, List.getElem_toArray, List.getElem_cons_zero, List.getElem_cons_succ, List.setIfInBounds_toArray, List.set_cons_zero, List.set_cons_succ]
            refine wpAnyH_take (i := 4) (v := ?_) rfl (by kernel_rfl) (by kernel_rfl) (by kernel_rfl) (fun _ _ _ h => h) (Or.inl ⟨by rfl, fun V hV => ?_⟩) (by assumption) ?_
            rotate_left
            · go_simp
              try with_reducible rfl
            try simp only [Act.put, List.getElem_toArray, List.getElem_cons_zero, List.getElem_cons_succ, List.setIfInBounds_toArray, List.set_cons_zero, List.set_cons_succ]
            refine wpAnyH_take (i := 5) (v := ?_) rfl (by kernel_rfl) (by kernel_rfl) (by kernel_rfl) (fun _ _ _ h => h) (Or.inl ⟨by rfl, fun V hV => ?_⟩) (by assumption) ?_
            rotate_left
            · have hX := HR.out.below hV.2; have d0 := (hX.2 0 (.int .i64 rx.lo) rfl).1; have d1 := (hX.2 1 (.int .i64 rx.hi) rfl).1; have d2 := (hX.2 2 (.int .i64 ry.lo) rfl).1; have d3 := (hX.2 3 (.int .i64 ry.hi) rfl).1; go_simp
              try with_reducible rfl
            try simp only [Act.put, List.getElem_toArray, List.getElem_cons_zero, List.getElem_cons_succ, List.setIfInBounds_toArray, List.set_cons_zero, List.set_cons_succ]
            refine wpAnyH_take (i := 6) (v := ?_) rfl (by kernel_rfl) (by kernel_rfl) (by kernel_rfl) (fun _ _ _ h => h) (Or.inl ⟨by rfl, fun V hV => ?_⟩) (by assumption) ?_
            rotate_left
            · go_simp
              try with_reducible rfl
            try simp only [Act.put, List.getElem_toArray, List.getElem_cons_zero, List.getElem_cons_succ, List.setIfInBounds_toArray, List.set_cons_zero, List.set_cons_succ]
            refine wpAnyH_take (i := 7) (v := ?_) rfl (by kernel_rfl) (by kernel_rfl) (by kernel_rfl) (fun _ _ _ h => h) (Or.inl ⟨by rfl, fun V hV => ?_⟩) (by assumption) ?_
            rotate_left
            · go_simp
              try with_reducible rfl
            try simp only [Act.put, List.getElem_toArray, List.getElem_cons_zero, List.getElem_cons_succ, List.setIfInBounds_toArray, List.set_cons_zero, List.set_cons_succ]
            refine wpAnyH_take (i := 8) (v := ?_) rfl (by kernel_rfl) (by kernel_rfl) (by kernel_rfl) (fun _ _ _ h => h) (Or.inl ⟨by rfl, fun V hV => ?_⟩) (by assumption) ?_
            rotate_left
            · have hX := HR.out.below hV.2; have d0 := (hX.2 0 (.int .i64 rx.lo) rfl).1; have d1 := (hX.2 1 (.int .i64 rx.hi) rfl).1; have d2 := (hX.2 2 (.int .i64 ry.lo) rfl).1; have d3 := (hX.2 3 (.int .i64 ry.hi) rfl).1; go_simp
              try with_reducible rfl
            try simp only [Act.put, List.getElem_toArray, List.getElem_cons_zero, List.getElem_cons_succ, List.setIfInBounds_toArray, List.set_cons_zero, List.set_cons_succ]
            refine wpAnyH_ready (rs := [2]) (by kernel_rfl) (by simp) ?_
            refine AllReadyH.cons (o := _) rfl (fun K hK => ?_) AllReadyH.nil
            go_simp
            refine (truths_any s p n c _ (HC.out.below hS.1.below) HOK.out).mono ?_
            rintro e v2 ⟨v, rfl, hown, hb⟩
            obtain ⟨ql, dl, rfl, hrl⟩ := hown.slice cellsT_len
            rw [HNT.out] at hrl ⊢
            have HRL2 := hid hrl
            clear hown hrl
            refine hK.out _ _ (⟨hS.1.step hb, hS.2.trans (hb.mono hS.2.size)⟩) (fun hS => ?_)
            clear hK K
            try simp only [List.setIfInBounds_toArray, List.set_cons_zero, List.set_cons_succ]
            refine wpAnyH_ready (rs := [9]) (by kernel_rfl) (by simp) ?_
            refine AllReadyH.cons (o := _) rfl (fun K hK => ?_) AllReadyH.nil
            go_simp
            (with_reducible refine (worstR_any s p n c ql NT dl (truR s) rx.lo ry.lo _ HRL2.out HNT2.out HSS.out HSM.out (by have := HRB.out; omega) (by have := HRB.out; omega) (by have := HRB.out; omega) (by have := HRB.out; omega)).mono ?_)
            rintro e w11 ⟨rfl, hb⟩
            rw [HNN.out]
            refine hK.out _ _ (⟨hS.1.step hb, hS.2.trans (hb.mono hS.2.size)⟩) (fun hS => ?_)
            clear hK K
            try simp only [List.setIfInBounds_toArray, List.set_cons_zero, List.set_cons_succ]
            refine wpAnyH_take (i := 10) (v := ?_) rfl (by kernel_rfl) (by kernel_rfl) (by kernel_rfl) (fun _ _ _ h => h) (Or.inl ⟨by rfl, fun V hV => ?_⟩) (by assumption) ?_
            rotate_left
            · go_simp
              try with_reducible rfl
            try simp only [Act.put, List.getElem_toArray, List.getElem_cons_zero, List.getElem_cons_succ, List.setIfInBounds_toArray, List.set_cons_zero, List.set_cons_succ]
            refine wpAnyH_done (by kernel_rfl) ?_ _
            have H11 := hid hS.1
            clear hS
            obtain ⟨ha1, ha2, ha3⟩ := HAB.out
            have hge := HGE.out
            by_cases hlt : (NA : Int) < NB
            · have hm : B3 = NB := by omega
              have hlt2 : NA < NB := by omega
              subst hm
              go_wp2_with fail
              refine (awake_any _).mono ?_
              rintro e w99 ⟨rfl, hb⟩
              go_wp2_with fail
              go_ret
              exact ⟨rfl, H11.out.below.trans (hb.mono H11.out.below.size)⟩
            · have hm : B3 = NA := by omega
              have hlt2 : ¬ NA < NB := by omega
              subst hm
              go_wp2_with fail
              refine (awake_any _).mono ?_
              rintro e w99 ⟨rfl, hb⟩
              go_wp2_with fail
              go_ret
              exact ⟨rfl, H11.out.below.trans (hb.mono H11.out.below.size)⟩
end Go.Proofs.Ytfnefkenheglhaa
