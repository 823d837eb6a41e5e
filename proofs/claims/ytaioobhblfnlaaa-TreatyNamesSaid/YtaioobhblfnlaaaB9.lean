/- The reference: the truth with a number. No condition but small ranges. -/
import Derived.Test.YtaioobhblfnlaaaB8
namespace Go.Proofs.Ytaioobhblfnlaaa
open Go.RowKit

theorem nthL_cons {l : List Rng} {k : Nat} {r : Rng} (h : l.drop k = r :: l.drop (k + 1)) (m : Int) : nthL (l.drop k) m = (r.lo + m % r.cnt) :: nthL (l.drop (k + 1)) (m / r.cnt) := by rw [h, nthL]

set_option maxRecDepth 40000 in
set_option maxHeartbeats 4000000 in
theorem nth_any (p : Prg) (lp : Option Addr) (ln lc : Nat) (tp : Option Addr) (tn tc : Nat) (rp : Option Addr) (rn rc : Nat) (n : Int) (w : World) (hp : PrgAt w p lp ln tp tn rp rn) (hln : ln ≤ 1000) (hlo : LossOk p.losses) (h0 : 0 ≤ n) (h1 : n ≤ 1000000) :
    Calls Try.prog 56 #[.agg #[.slice lp ln lc, .int .i64 p.reserve, .slice tp tn tc, .slice rp rn rc], .int .i64 n] w (RetInts w (nthL p.losses n)) := by
  have HP := hid hp.l
  have HLN := hid hp.l.1
  have HLO := hid hlo
  clear hp hlo
  have H0 : Hid (Boxed1 w #[.slice lp ln lc, .int .i64 p.reserve, .slice tp tn tc, .slice rp rn rc] 26 (w.alloc (.cells #[.slice lp ln lc, .int .i64 p.reserve, .slice tp tn tc, .slice rp rn rc] 26))) := hid (Boxed1.start _ _ _)
  go_enter Try.func56, Try.ntmps56
  go_wp2
  go_loopw [1, 5, 6] (fun a v i wr => ∃ (k : Nat) (m : Int) (pre : List Int), k ≤ ln ∧ a = .int .i64 m ∧ i = .int .i64 k ∧ (0 ≤ m ∧ m ≤ 1000000) ∧ OwnInts wr (w.heap.size + 1) v pre ∧ pre.length = k ∧ pre ++ nthL (p.losses.drop k) m = nthL p.losses n ∧ Boxed1 w #[.slice lp ln lc, .int .i64 p.reserve, .slice tp tn tc, .slice rp rn rc] 26 wr) (fun _ _ i _ => ln - (intOf i).toNat)
  case atStart => exact ⟨0, n, [], by omega, rfl, rfl, ⟨h0, h1⟩, ownInts_nil _ _, rfl, rfl, H0.out⟩
  case round =>
    obtain ⟨k, m, pre, hk, rfl, rfl, hm, ho, hpl, hr, hb⟩ := hrel
    have HR := hid hr; have HB := hid hb; have HO := hid ho; have HPL := hid hpl
    clear hr ho hpl
    by_cases hlt : k < ln
    · obtain ⟨r, ht, b2, o2, rfl, hb2, hd0, hd1⟩ := (HP.out.below hb.below).rng hlt
      have HX := hid ht
      have HD := hid (nthL_cons (drop_at' ht) m)
      have hrl := HLO.out r (List.mem_of_getElem? ht)
      have e0 := hb.cell 0 (v := .slice (some ⟨b2, o2, none⟩) ln lc) rfl
      clear ht hb hd0 hd1
      go_wp2_with fail
      clear e0
      have hc : 1 ≤ r.cnt ∧ r.cnt ≤ 1001 := by unfold Rng.cnt; omega
      have hq0 : 0 ≤ m % r.cnt := Int.emod_nonneg m (by omega)
      have hq1 : m % r.cnt < r.cnt := Int.emod_lt_of_pos m (by omega)
      have hz0 : 0 ≤ m / r.cnt := Int.ediv_nonneg hm.1 (by omega)
      have hz1 : m / r.cnt ≤ m := Int.ediv_le_self _ hm.1
      have HCN := hid (fun W => count_any r W (by omega) (by omega) (by omega) (by omega))
      have hmd : m.tmod r.cnt = m % r.cnt := Int.tmod_eq_emod_of_nonneg hm.1
      have hdv : m.tdiv r.cnt = m / r.cnt := Int.tdiv_eq_ediv_of_nonneg hm.1
      have hw1 : IntKind.i64.wrap (m % r.cnt) = m % r.cnt := IntWalk.i64_in _ (by omega)
      have hw2 : IntKind.i64.wrap (r.lo + m % r.cnt) = r.lo + m % r.cnt := IntWalk.i64_in _ (by omega)
      have hw3 : IntKind.i64.wrap (m / r.cnt) = m / r.cnt := IntWalk.i64_in _ (by omega)
      have hcz : ¬ r.cnt = 0 := by omega
      have HQ := hid (⟨by omega, by omega⟩ : 0 ≤ m / r.cnt ∧ m / r.cnt ≤ 1000000)
      have HFN : Hid ((pre ++ [r.lo + m % r.cnt]) ++ nthL (p.losses.drop (k + 1)) (m / r.cnt) = nthL p.losses n) := by show _ = _; rw [← HR.out, HD.out, List.append_assoc]; rfl
      refine wp_region_held_drew (S := fun V => Boxed1 w #[.slice (some ⟨b2, o2, none⟩) ln lc, .int .i64 p.reserve, .slice tp tn tc, .slice rp rn rc] 26 V) (by kernel_rfl) (HB.out.drew) (fun hS => ?_)
      simp only [List.size_toArray, List.length_cons, List.length_nil, Nat.reduceAdd, Array.replicate_succ, Array.replicate_zero, List.push_toArray, List.nil_append, List.cons_append]
      refine tkH (i := 0) (v := ?_) (fun V hV => ?_) ?_
      rotate_left
      · go_simp
        try with_reducible rfl
      try simp only [Act.put, List.getElem_toArray, List.getElem_cons_zero, List.setIfInBounds_toArray, List.set_cons_zero, List.set_cons_succ]
      refine tkH (i := 1) (v := ?_) (fun V hV => ?_) ?_
      rotate_left
      · go_simp
        try with_reducible rfl
      try simp only [Act.put, List.getElem_toArray, List.getElem_cons_zero, List.getElem_cons_succ, List.setIfInBounds_toArray, List.set_cons_zero, List.set_cons_succ]
      refine tkH (i := 2) (v := ?_) (fun V hV => ?_) ?_
      rotate_left
      · have e0 := hV.cell 0 (v := .slice (some ⟨b2, o2, none⟩) ln lc) rfl; go_simp
        try with_reducible rfl
      try simp only [Act.put, List.getElem_toArray, List.getElem_cons_zero, List.getElem_cons_succ, List.setIfInBounds_toArray, List.set_cons_zero, List.set_cons_succ]
      refine tkH (i := 3) (v := ?_) (fun V hV => ?_) ?_
      rotate_left
      · go_simp
        try with_reducible rfl
      try simp only [Act.put, List.getElem_toArray, List.getElem_cons_zero, List.getElem_cons_succ, List.setIfInBounds_toArray, List.set_cons_zero, List.set_cons_succ]
      refine tkH (i := 4) (v := ?_) (fun V hV => ?_) ?_
      rotate_left
      · go_simp
        try with_reducible rfl
      try simp only [Act.put, List.getElem_toArray, List.getElem_cons_zero, List.getElem_cons_succ, List.setIfInBounds_toArray, List.set_cons_zero, List.set_cons_succ]
      refine tkH (i := 5) (v := ?_) (fun V hV => ?_) ?_
      rotate_left
      · go_simp
        try with_reducible rfl
      try simp only [Act.put, List.getElem_toArray, List.getElem_cons_zero, List.getElem_cons_succ, List.setIfInBounds_toArray, List.set_cons_zero, List.set_cons_succ]
      refine tkH (i := 6) (v := ?_) (fun V hV => ?_) ?_
      rotate_left
      · have ⟨c0, c1⟩ := rng_again (HP.out.below hV.below) HX.out; go_simp
        try with_reducible rfl
      try simp only [Act.put, List.getElem_toArray, List.getElem_cons_zero, List.getElem_cons_succ, List.setIfInBounds_toArray, List.set_cons_zero, List.set_cons_succ]
      refine tkH (i := 7) (v := ?_) (fun V hV => ?_) ?_
      rotate_left
      · go_simp
        try with_reducible rfl
      try simp only [Act.put, List.getElem_toArray, List.getElem_cons_zero, List.getElem_cons_succ, List.setIfInBounds_toArray, List.set_cons_zero, List.set_cons_succ]
      refine tkH (i := 8) (v := ?_) (fun V hV => ?_) ?_
      rotate_left
      · go_simp
        try with_reducible rfl
      try simp only [Act.put, List.getElem_toArray, List.getElem_cons_zero, List.getElem_cons_succ, List.setIfInBounds_toArray, List.set_cons_zero, List.set_cons_succ]
      refine tkH (i := 9) (v := ?_) (fun V hV => ?_) ?_
      rotate_left
      · have e0 := hV.cell 0 (v := .slice (some ⟨b2, o2, none⟩) ln lc) rfl; go_simp
        try with_reducible rfl
      try simp only [Act.put, List.getElem_toArray, List.getElem_cons_zero, List.getElem_cons_succ, List.setIfInBounds_toArray, List.set_cons_zero, List.set_cons_succ]
      refine tkH (i := 10) (v := ?_) (fun V hV => ?_) ?_
      rotate_left
      · go_simp
        try with_reducible rfl
      try simp only [Act.put, List.getElem_toArray, List.getElem_cons_zero, List.getElem_cons_succ, List.setIfInBounds_toArray, List.set_cons_zero, List.set_cons_succ]
      refine tkH (i := 11) (v := ?_) (fun V hV => ?_) ?_
      rotate_left
      · go_simp
        try with_reducible rfl
      try simp only [Act.put, List.getElem_toArray, List.getElem_cons_zero, List.getElem_cons_succ, List.setIfInBounds_toArray, List.set_cons_zero, List.set_cons_succ]
      refine tkH (i := 12) (v := ?_) (fun V hV => ?_) ?_
      rotate_left
      · have ⟨c0, c1⟩ := rng_again (HP.out.below hV.below) HX.out; go_simp
        try with_reducible rfl
      try simp only [Act.put, List.getElem_toArray, List.getElem_cons_zero, List.getElem_cons_succ, List.setIfInBounds_toArray, List.set_cons_zero, List.set_cons_succ]
      refine tkH (i := 18) (v := ?_) (fun V hV => ?_) ?_
      rotate_left
      · go_simp
        try with_reducible rfl
      try simp only [Act.put, List.getElem_toArray, List.getElem_cons_zero, List.getElem_cons_succ, List.setIfInBounds_toArray, List.set_cons_zero, List.set_cons_succ]
      refine tkH (i := 19) (v := ?_) (fun V hV => ?_) ?_
      rotate_left
      · go_simp
        try with_reducible rfl
      try simp only [Act.put, List.getElem_toArray, List.getElem_cons_zero, List.getElem_cons_succ, List.setIfInBounds_toArray, List.set_cons_zero, List.set_cons_succ]
      refine tkH (i := 20) (v := ?_) (fun V hV => ?_) ?_
      rotate_left
      · have e0 := hV.cell 0 (v := .slice (some ⟨b2, o2, none⟩) ln lc) rfl; go_simp
        try with_reducible rfl
      try simp only [Act.put, List.getElem_toArray, List.getElem_cons_zero, List.getElem_cons_succ, List.setIfInBounds_toArray, List.set_cons_zero, List.set_cons_succ]
      refine tkH (i := 21) (v := ?_) (fun V hV => ?_) ?_
      rotate_left
      · go_simp
        try with_reducible rfl
      try simp only [Act.put, List.getElem_toArray, List.getElem_cons_zero, List.getElem_cons_succ, List.setIfInBounds_toArray, List.set_cons_zero, List.set_cons_succ]
      refine tkH (i := 22) (v := ?_) (fun V hV => ?_) ?_
      rotate_left
      · go_simp
        try with_reducible rfl
      try simp only [Act.put, List.getElem_toArray, List.getElem_cons_zero, List.getElem_cons_succ, List.setIfInBounds_toArray, List.set_cons_zero, List.set_cons_succ]
      refine tkH (i := 23) (v := ?_) (fun V hV => ?_) ?_
      rotate_left
      · have ⟨c0, c1⟩ := rng_again (HP.out.below hV.below) HX.out; go_simp
        try with_reducible rfl
      try simp only [Act.put, List.getElem_toArray, List.getElem_cons_zero, List.getElem_cons_succ, List.setIfInBounds_toArray, List.set_cons_zero, List.set_cons_succ]
      refine wpAnyH_ready (rs := [13]) (by kernel_rfl) (by simp) ?_
      refine AllReadyH.cons (o := _) rfl (fun K hK => ?_) AllReadyH.nil
      go_simp
      (with_reducible refine (HCN.out _).mono ?_)
      rintro e v13 ⟨rfl, hb⟩
      have HO1 := hid ((HO.out.below (Below.refl _ _).drew).below hb)
      refine hK.out _ _ (hS.step hb) (fun hS => ?_)
      clear hK K
      try simp only [List.setIfInBounds_toArray, List.set_cons_zero, List.set_cons_succ]
      refine tkH (i := 14) (v := ?_) (fun V hV => ?_) ?_
      rotate_left
      · go_simp
        try with_reducible rfl
      try simp only [Act.put, List.getElem_toArray, List.getElem_cons_zero, List.getElem_cons_succ, List.setIfInBounds_toArray, List.set_cons_zero, List.set_cons_succ]
      refine tkH (i := 15) (v := ?_) (fun V hV => ?_) ?_
      rotate_left
      · go_simp
        try with_reducible rfl
      try simp only [Act.put, List.getElem_toArray, List.getElem_cons_zero, List.getElem_cons_succ, List.setIfInBounds_toArray, List.set_cons_zero, List.set_cons_succ]
      refine wpAnyH_ready (rs := [16]) (by kernel_rfl) (by simp) ?_
      refine AllReadyH.cons (o := _) rfl (fun K hK => ?_) AllReadyH.nil
      obtain ⟨v16, hv16⟩ : ∃ V, v13.alloc (.cells #[.int .i64 (r.lo + m % r.cnt)] 3) = V := ⟨_, rfl⟩
      have hb : Below v13.heap.size v13 v16 := by rw [← hv16]; exact (Below.refl _ _).alloc (Nat.le_refl _) _
      have HC16 : Hid (v16.cell? ⟨v13.heap.size, 0, none⟩ = some (.int .i64 (r.lo + m % r.cnt))) := by show _ = _; rw [← hv16]; exact cell_box v13 _ 3 0 _ rfl
      have HO2 := hid (HO1.out.below hb)
      go_simp
      refine hK.out _ _ (hS.step hb) (fun hS => ?_)
      clear hK K
      try simp only [List.setIfInBounds_toArray, List.set_cons_zero, List.set_cons_succ]
      refine wpAnyH_ready (rs := [17]) (by kernel_rfl) (by simp) ?_
      refine AllReadyH.cons (o := _) rfl (fun K hK => ?_) AllReadyH.nil
      refine step_append_int (by rfl) (.tmp 14) (.tmp 30) (by rfl) (w.heap.size + 1) _ pre (r.lo + m % r.cnt) v13.heap.size HO2.out (by rfl) (by rfl) HC16.out (by have := HPL.out; omega) hS.size ?_
      intro g5 cap5 v17 ho5 hb5 hg5
      have HO3 := hid ho5
      refine hK.out _ _ (hS.step' hb5) (fun hS => ?_)
      clear hK K
      try simp only [Act.put, List.getElem_toArray, List.getElem_cons_zero, List.getElem_cons_succ, List.setIfInBounds_toArray, List.set_cons_zero, List.set_cons_succ]
      refine wpAnyH_ready (rs := [24]) (by kernel_rfl) (by simp) ?_
      refine AllReadyH.cons (o := _) rfl (fun K hK => ?_) AllReadyH.nil
      go_simp
      (with_reducible refine (HCN.out _).mono ?_)
      rintro e v24 ⟨rfl, hb⟩
      have HO4 := hid (HO3.out.below hb)
      refine hK.out _ _ (hS.step hb) (fun hS => ?_)
      clear hK K
      try simp only [List.setIfInBounds_toArray, List.set_cons_zero, List.set_cons_succ]
      refine tkH (i := 25) (v := ?_) (fun V hV => ?_) ?_
      rotate_left
      · go_simp
        try with_reducible rfl
      try simp only [Act.put, List.getElem_toArray, List.getElem_cons_zero, List.getElem_cons_succ, List.setIfInBounds_toArray, List.set_cons_zero, List.set_cons_succ]
      refine tkH (i := 26) (v := ?_) (fun V hV => ?_) ?_
      rotate_left
      · go_simp
        try with_reducible rfl
      try simp only [Act.put, List.getElem_toArray, List.getElem_cons_zero, List.getElem_cons_succ, List.setIfInBounds_toArray, List.set_cons_zero, List.set_cons_succ]
      refine tkH (i := 27) (v := ?_) (fun V hV => ?_) ?_
      rotate_left
      · go_simp
        try with_reducible rfl
      try simp only [Act.put, List.getElem_toArray, List.getElem_cons_zero, List.getElem_cons_succ, List.setIfInBounds_toArray, List.set_cons_zero, List.set_cons_succ]
      refine wpAnyH_done (by kernel_rfl) ?_ _
      have HB2 := hid hS
      clear hS
      go_wp2_with fail
      go_roundw
      case rel => exact ⟨k + 1, m / r.cnt, pre ++ [r.lo + m % r.cnt], by omega, rfl, by go_num, HQ.out, by simpa [HPL.out] using HO4.out, by simp [HPL.out], HFN.out, HB2.out⟩
      case measure => simp [intOf]; omega
    · have HF : Hid (nthL p.losses n = pre) := by show _ = _; rw [← HR.out, List.drop_of_length_le (by have := HLN.out; omega)]; simp [nthL]
      have e0 := hb.cell 0 (v := .slice lp ln lc) rfl
      clear hb
      go_wp2_with fail
      go_ret
      exact ⟨_, rfl, by rw [HF.out]; exact HO.out.mono (Nat.le_succ _), HB.out.below⟩
end Go.Proofs.Ytaioobhblfnlaaa
