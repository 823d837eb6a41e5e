/- TreatyQuota: with a Quota alone the society keeps each loss less the part of it, rounded down. For each programme, word and byte. -/
import Derived.Test.YtaioobhblfnlaaaD6
namespace Go.Proofs.Ytaioobhblfnlaaa
open Go.RowKit

theorem prod_min {p : Prg} (_ok : OkP p) (h : prodL p.losses ≤ 300) : minI 2000 (prodL p.losses) = prodL p.losses := by unfold minI; rw [if_pos (by omega)]
theorem pl_ok {p : Prg} {l : List Int} (ok : OkP p) (hl : listedB p.losses l = true) : playE p l = 0 ∧ playN p l = (payA p l).2 ∧ playL p l = ofF (payA p l).1 p.ts.length := by
  have h2 : playE p l = 0 := by rw [playE, if_pos (fault_iff.2 ok), hl]; rfl
  exact ⟨h2, by rw [playN, if_pos h2], by rw [playL, if_pos h2]⟩

def quoP (p : Prg) (n : Int) : Prg := { p with ts := [quoT n], reps := [] }
theorem OkP.quo {p : Prg} (ok : OkP p) {n : Int} (h0 : 1 ≤ n) (h1 : n ≤ 100) : OkP (quoP p n) := by
  refine ⟨ok.n4, by simp [quoP], by simp [quoP], ok.r0, ok.r9, ok.loss, ?_, by simp [quoP], ok.many⟩
  intro i t ht
  have hi : i = 0 := by
    have := (List.getElem?_eq_some_iff.1 ht).1
    simp [quoP] at this; exact this
  subst hi
  simp [quoP] at ht
  subst ht
  refine ⟨treV_iff.2 ⟨by simp [quoT], by simp [quoT], .inl ⟨rfl, ⟨h0, h1⟩, rfl, rfl, rfl⟩⟩, by simp [quoT], by simp [quoT]⟩
theorem due_snoc (n a : Int) : ∀ l : List Int, dueL n (l ++ [a]) = dueL n l + a * n / 100
  | [] => by simp [dueL]
  | b :: l => by rw [List.cons_append, dueL, dueL, due_snoc n a l]; omega
theorem kept_snoc (n a : Int) : ∀ l : List Int, keptL n (l ++ [a]) = keptL n l + a - a * n / 100
  | [] => by simp [keptL]
  | b :: l => by rw [List.cons_append, keptL, keptL, kept_snoc n a l]; omega
theorem quo_bd {n a : Int} (h0 : 1 ≤ n) (h1 : n ≤ 100) (ha : 0 ≤ a) (hb : a ≤ 1000) : 0 ≤ a * n ∧ a * n ≤ 100000 ∧ 0 ≤ a * n / 100 ∧ a * n / 100 ≤ 1000 := by
  have h2 := Int.mul_nonneg ha (show 0 ≤ n by omega)
  have h3 := Int.mul_le_mul hb h1 (by omega) (by omega)
  omega

set_option maxRecDepth 40000 in
set_option maxHeartbeats 16000000 in
theorem treatyQuota_any (p : Prg) (lp : Option Addr) (ln lc : Nat) (tp : Option Addr) (tn tc : Nat) (rp : Option Addr) (rn rc : Nat) (vv qv : Int) (w : World) (hp : PrgAt w p lp ln tp tn rp rn) (hvv : 0 ≤ vv ∧ vv ≤ 65535) (hqv : 0 ≤ qv ∧ qv ≤ 255) : Calls Try.prog 11 #[.agg #[.slice lp ln lc, .int .i64 p.reserve, .slice tp tn tc, .slice rp rn rc], .int .u16 vv, .int .u8 qv] w fun e w' => e = .returned (.bool true) ∧ Below w.heap.size w w' := by
  obtain ⟨V, rfl⟩ : ∃ V : Nat, vv = (V : Int) := ⟨vv.toNat, by omega⟩
  have hV : V ≤ 65535 := by omega
  obtain ⟨Q, rfl⟩ : ∃ Q : Nat, qv = (Q : Int) := ⟨qv.toNat, by omega⟩
  have hQ : Q ≤ 255 := by omega
  have HP := hid hp
  have HTH := hid (fun W (hW : Below w.heap.size w W) => thin_any p lp ln lc tp tn tc rp rn rc W (hp.below hW))
  have HFL := hid (fun W (hW : Below w.heap.size w W) => faultL_any p lp ln lc tp tn tc rp rn rc W (hp.below hW))
  have HRD := hid (fun W (hW : Below w.heap.size w W) => ready_any p lp ln lc tp tn tc rp rn rc W (hp.below hW))
  clear hp hvv hqv
  have H0 : Hid (Boxed1 w #[.slice lp ln lc, .int .i64 p.reserve, .slice tp tn tc, .slice rp rn rc] 26 (w.alloc (.cells #[.slice lp ln lc, .int .i64 p.reserve, .slice tp tn tc, .slice rp rn rc] 26))) := hid (Boxed1.start _ _ _)
  go_enter Try.func11, Try.ntmps11
  have e0 := H0.out.cell 0 (v := .slice lp ln lc) rfl; have e1 := H0.out.cell 1 (v := .int .i64 p.reserve) rfl; have e2 := H0.out.cell 2 (v := .slice tp tn tc) rfl; have e3 := H0.out.cell 3 (v := .slice rp rn rc) rfl
  go_wp2_with fail
  (with_reducible refine (HRD.out _ ?_).mono ?_)
  · exact H0.out.below
  rintro e w1 ⟨rfl, hb⟩
  have H1 := hid (H0.out.step hb)
  clear e0 e1 e2 e3 hb 
  cases hrd : readyB p
  · clear hrd
    go_wp2_with fail
    (with_reducible refine (awake_any _).mono ?_)
    rintro e w99 ⟨rfl, hb⟩
    go_wp2_with fail
    go_ret
    exact ⟨rfl, H1.out.below.trans (hb.mono H1.out.below.size)⟩
  · have HOK := hid (ready_iff.1 hrd).1; have HMY := hid (ready_iff.1 hrd).2
    have hln : ln ≤ 4 := by have := HP.out.l.1; have := HOK.out.n4; omega
    have htn : tn ≤ 5 := by have := HP.out.t.1; have := HOK.out.m5; omega
    have hrn : rn ≤ 5 := by have := HP.out.r.1; have := HOK.out.k5; omega
    have HF0 := hid (fault_iff.2 HOK.out)
    clear hrd
    obtain ⟨M, hM⟩ : ∃ M, prodL p.losses = M := ⟨_, rfl⟩
    have hMb : 1 ≤ M ∧ M ≤ 300 := by rw [← hM]; exact ⟨HOK.out.pos, HMY.out⟩
    have HMN : Hid (minI 2000 (prodL p.losses) = M) := hid (by rw [prod_min HOK.out HMY.out]; exact hM)
    obtain ⟨N0, hN0⟩ : ∃ N, (V : Int) % M = N := ⟨_, rfl⟩
    have hNb : 0 ≤ N0 ∧ N0 < M := by rw [← hN0]; exact ⟨Int.emod_nonneg _ (by omega), Int.emod_lt_of_pos _ (by omega)⟩
    have HN0 : Hid (0 ≤ N0 ∧ N0 ≤ 1000000) := hid (by omega)
    have HNQ : Hid (IntKind.i64.wrap (V : Int) = (V : Int) ∧ (V : Int).tmod M = N0 ∧ IntKind.i64.wrap N0 = N0 ∧ ¬ M = 0) := hid ⟨IntWalk.i64_in _ (by omega), by rw [Int.tmod_eq_emod_of_nonneg (by omega), hN0], IntWalk.i64_in _ (by omega), by omega⟩
    have HLS : Hid (LossOk p.losses) := hid HOK.out.loss
    have HLT9 : Hid (listedB p.losses (nthL p.losses N0) = true) := hid (nth_listed HOK.out.cnt N0 hNb.1)
    clear hM hMb hN0 hNb
    have e0 := H1.out.cell 0 (v := .slice lp ln lc) rfl; have e1 := H1.out.cell 1 (v := .int .i64 p.reserve) rfl; have e2 := H1.out.cell 2 (v := .slice tp tn tc) rfl; have e3 := H1.out.cell 3 (v := .slice rp rn rc) rfl
    go_upto_region 4 with fail
    obtain ⟨w2, hw2⟩ : ∃ V, w1.alloc (.cells #[.slice lp ln lc, .int .i64 p.reserve, .slice tp tn tc, .slice rp rn rc] 26) = V := ⟨_, rfl⟩
    rw [hw2]
    have hb : Below w1.heap.size w1 w2 := by rw [← hw2]; exact (Below.refl _ _).alloc (Nat.le_refl _) _
    have HXX : Hid (BoxIs w1.heap.size #[.slice lp ln lc, .int .i64 p.reserve, .slice tp tn tc, .slice rp rn rc] w2) := hid (by rw [← hw2]; exact BoxIs.start _ _ _)
    have HZX := hid H1.out.size
    clear hw2
    clear e0 e1 e2 e3 
    have H2 := hid (H1.out.step hb)
    clear hb
    obtain ⟨n, hn⟩ : ∃ n, 1 + (Q : Int) % 100 = n := ⟨_, rfl⟩
    have hnb : 1 ≤ n ∧ n ≤ 100 := by omega
    have hcv : IntKind.i64.wrap (Q : Int) = (Q : Int) := IntWalk.i64_in _ (by omega)
    go_upto_region 5 with fail
    try rw [hn]
    clear hn hcv
    obtain ⟨w3, hw3⟩ : ∃ V, w2.alloc (.cells #[.int .i64 0, .int .i64 n, .int .i64 0, .int .i64 0, .int .i64 0, .int .i64 0, .int .i64 (-1)] 94) = V := ⟨_, rfl⟩
    have hb : Below w2.heap.size w2 w3 := by rw [← hw3]; exact (Below.refl _ _).alloc (Nat.le_refl _) _
    have HTT : Hid (RowsAt cellsT 7 w3 (some ⟨w2.heap.size, 0, none⟩) 1 [quoT n]) := hid (by rw [← hw3]; exact lit_rows cellsT_len [quoT n] w2 94)
    have HTB : Hid (w1.heap.size < w2.heap.size) := hid HXX.out.1
    replace HXX := hid (HXX.out.below hb)
    have H3 := hid (H2.out.step hb)
    clear hb
    have k2 := (HXX.out.2 2 (.slice tp tn tc) rfl).1; have f2 := (HXX.out.2 2 (.slice tp tn tc) rfl).2; have k3 := (HXX.out.2 3 (.slice rp rn rc) rfl).1; have f3 := (HXX.out.2 3 (.slice rp rn rc) rfl).2
    go_upto_region 6 with fail
    clear hw3 k2 f2 k3 f3
    replace HXX := hid ((HXX.out.put (j := 2) (.slice (some ⟨w2.heap.size, 0, none⟩) 1 1)).put (j := 3) (.slice none 0 0))
    have HN5 := hid (((Near.refl (fun i => i = w1.heap.size) w3).setCell (p := ⟨w1.heap.size, 2, none⟩) (fun _ => rfl) (.slice (some ⟨w2.heap.size, 0, none⟩) 1 1)).setCell (p := ⟨w1.heap.size, 3, none⟩) (fun _ => rfl) (.slice none 0 0))
    generalize ((w3.setCell ⟨w1.heap.size, 2, none⟩ (.slice (some ⟨w2.heap.size, 0, none⟩) 1 1)).setCell ⟨w1.heap.size, 3, none⟩ (.slice none 0 0)) = w4 at HXX HN5 ⊢
    have H4 := hid (H3.out.step' (HN5.out.below H3.out.size (fun i h1 h2 => by have := HZX.out; omega)))
    replace HTT := hid (HTT.out.kept HN5.out.size (fun a ha h0 hlt => HN5.out.block _ hlt (by cases ha; have := HTB.out; show w2.heap.size ≠ w1.heap.size; omega)))
    clear HN5
    have HOQ := hid (HOK.out.quo hnb.1 hnb.2)
    have HPQ : Hid (PrgAt w4 (quoP p n) lp ln (some ⟨w2.heap.size, 0, none⟩) 1 none 0) := hid ⟨HP.out.l.below H4.out.below, HTT.out, rows_none _⟩
    clear HTT HTB
    skip
    refine wp_region_held_drew (S := fun V => Boxed1 w #[.slice lp ln lc, .int .i64 p.reserve, .slice tp tn tc, .slice rp rn rc] 26 V ∧ Below w4.heap.size w4 V) (by kernel_rfl) (⟨H4.out.drew, (Below.refl _ _).drew⟩) (fun hS => ?_)
    simp only [List.size_toArray, List.length_cons, List.length_nil, Nat.reduceAdd, Array.replicate_succ, Array.replicate_zero, List.push_toArray, List.nil_append, List.cons_append]
    refine tkH (i := 0) (v := ?_) (fun V hV => ?_) ?_
    rotate_left
    · have hX := HXX.out.below hV.2; have x0 := (hX.2 0 (.slice lp ln lc) rfl).1; have x1 := (hX.2 1 (.int .i64 p.reserve) rfl).1; have x2 := (hX.2 2 (.slice (some ⟨w2.heap.size, 0, none⟩) 1 1) rfl).1; have x3 := (hX.2 3 (.slice none 0 0) rfl).1; go_simp
      try with_reducible rfl
    try simp only [Act.put, List.getElem_toArray, List.getElem_cons_zero, List.setIfInBounds_toArray, List.set_cons_zero, List.set_cons_succ]
    refine tkH (i := 1) (v := ?_) (fun V hV => ?_) ?_
    rotate_left
    · go_simp
      try with_reducible rfl
    try simp only [Act.put, List.getElem_toArray, List.getElem_cons_zero, List.getElem_cons_succ, List.setIfInBounds_toArray, List.set_cons_zero, List.set_cons_succ]
    refine tkH (i := 2) (v := ?_) (fun V hV => ?_) ?_
    rotate_left
    · have q1 := HNQ.out.1; have q2 := HNQ.out.2.1; have q3 := HNQ.out.2.2.1; have q4 := HNQ.out.2.2.2; go_simp
      try with_reducible rfl
    try simp only [Act.put, List.getElem_toArray, List.getElem_cons_zero, List.getElem_cons_succ, List.setIfInBounds_toArray, List.set_cons_zero, List.set_cons_succ]
    refine tkH (i := 3) (v := ?_) (fun V hV => ?_) ?_
    rotate_left
    · have hX := HXX.out.below hV.2; have x0 := (hX.2 0 (.slice lp ln lc) rfl).1; have x1 := (hX.2 1 (.int .i64 p.reserve) rfl).1; have x2 := (hX.2 2 (.slice (some ⟨w2.heap.size, 0, none⟩) 1 1) rfl).1; have x3 := (hX.2 3 (.slice none 0 0) rfl).1; go_simp
      try with_reducible rfl
    try simp only [Act.put, List.getElem_toArray, List.getElem_cons_zero, List.getElem_cons_succ, List.setIfInBounds_toArray, List.set_cons_zero, List.set_cons_succ]
    refine wpAnyH_ready (rs := [4]) (by kernel_rfl) (by simp) ?_
    refine AllReadyH.cons (o := _) rfl (fun K hK => ?_) AllReadyH.nil
    have hls9 : LossOk ((quoP p n)).losses := HLS.out
    go_simp
    refine (many_any (quoP p n) lp ln lc (some ⟨w2.heap.size, 0, none⟩) 1 1 none 0 0 _ (HPQ.out.below hS.2) (by omega) hls9).mono ?_
    rintro e v4 ⟨rfl, hb⟩
    rw [show minI 2000 (prodL ((quoP p n)).losses) = M from HMN.out]
    refine hK.out _ _ (⟨hS.1.step hb, hS.2.trans (hb.mono hS.2.size)⟩) (fun hS => ?_)
    clear hK K
    try simp only [List.setIfInBounds_toArray, List.set_cons_zero, List.set_cons_succ]
    refine tkH (i := 5) (v := ?_) (fun V hV => ?_) ?_
    rotate_left
    · have q1 := HNQ.out.1; have q2 := HNQ.out.2.1; have q3 := HNQ.out.2.2.1; have q4 := HNQ.out.2.2.2; go_simp
      try with_reducible rfl
    try simp only [Act.put, List.getElem_toArray, List.getElem_cons_zero, List.getElem_cons_succ, List.setIfInBounds_toArray, List.set_cons_zero, List.set_cons_succ]
    refine wpAnyH_ready (rs := [6]) (by kernel_rfl) (by simp) ?_
    refine AllReadyH.cons (o := _) rfl (fun K hK => ?_) AllReadyH.nil
    go_simp
    have hls9 : LossOk ((quoP p n)).losses := HLS.out
    refine (nth_any (quoP p n) lp ln lc (some ⟨w2.heap.size, 0, none⟩) 1 1 none 0 0 N0 _ (HPQ.out.below hS.2) (by omega) hls9 HN0.out.1 HN0.out.2).mono ?_
    rintro e v6 ⟨v, rfl, hown, hb⟩
    obtain ⟨q9, d9, rfl, hi9⟩ := hown.slice
    obtain ⟨L9, hL9⟩ : ∃ L, nthL ((quoP p n)).losses N0 = L := ⟨_, rfl⟩
    rw [hL9] at hi9 ⊢
    obtain ⟨m9, hm9⟩ : ∃ m, L9.length = m := ⟨_, rfl⟩
    rw [hm9] at hi9 ⊢
    have HT9 := hid hi9; have HL9 : Hid (nthL p.losses N0 = L9) := hid hL9
    clear hi9 hown hL9 hm9
    refine hK.out _ _ (⟨hS.1.step hb, hS.2.trans (hb.mono hS.2.size)⟩) (fun hS => ?_)
    clear hK K
    try simp only [List.setIfInBounds_toArray, List.set_cons_zero, List.set_cons_succ]
    refine tkH (i := 7) (v := ?_) (fun V hV => ?_) ?_
    rotate_left
    · go_simp
      try with_reducible rfl
    try simp only [Act.put, List.getElem_toArray, List.getElem_cons_zero, List.getElem_cons_succ, List.setIfInBounds_toArray, List.set_cons_zero, List.set_cons_succ]
    refine wpAnyH_done (by kernel_rfl) ?_ _
    have H5 := hid hS.1; replace HPQ := hid (HPQ.out.below hS.2); replace HXX := hid (HXX.out.below hS.2)
    clear hS
    obtain ⟨w5, hw⟩ : ∃ V, V = v6 := ⟨_, rfl⟩
    subst hw
    rw [HL9.out] at HLT9
    have hm4 : m9 ≤ 4 := by have := listed_len HLT9.out; have := HT9.out.1; have := HOK.out.n4; omega
    have x0 := (HXX.out.2 0 (.slice lp ln lc) rfl).1; have x1 := (HXX.out.2 1 (.int .i64 p.reserve) rfl).1; have x2 := (HXX.out.2 2 (.slice (some ⟨w2.heap.size, 0, none⟩) 1 1) rfl).1; have x3 := (HXX.out.2 3 (.slice none 0 0) rfl).1
    go_wp2_with fail
    refine (prog_any (quoP p n) lp ln lc (some ⟨w2.heap.size, 0, none⟩) 1 1 none 0 0 w5 HPQ.out (by omega) (by omega) (by omega)).mono ?_
    rintro e w6 ⟨lq5, lc5, tq5, tc5, rq5, rc5, rfl, hpx, hcx, hb⟩
    have H6 := hid (H5.out.step hb)
    replace HPQ := hid (HPQ.out.below hb)
    replace HXX := hid (HXX.out.below hb)
    replace HT9 := hid (HT9.out.below hb)
    have HP5 := hid hpx
    clear x0 x1 x2 x3
    clear hb hpx hcx
    go_wp2_with fail
    refine (list_any q9 m9 d9 L9 w6 HT9.out (by omega)).mono ?_
    rintro e w7 ⟨v, rfl, hown, hb⟩
    have H7 := hid (H6.out.step hb)
    replace HT9 := hid (HT9.out.below hb)
    replace HP5 := hid (HP5.out.below hb)
    obtain ⟨q1, d1, rfl, hi1⟩ := hown.slice
    rw [← HT9.out.1] at hi1 ⊢
    have HL1 := hid hi1
    clear hb hown hi1
    go_wp2_with fail
    refine (play_any (quoP p n) lq5 ln lc5 tq5 1 tc5 rq5 0 rc5 q1 m9 d1 L9 w7 HP5.out HL1.out (by omega)).mono ?_
    rintro e w8 ⟨v, rfl, hown, hb⟩
    have H8 := hid (H7.out.step hb)
    replace HT9 := hid (HT9.out.below hb)
    replace HP5 := hid (HP5.out.below hb)
    replace HL1 := hid (HL1.out.below hb)
    have hpl := pl_ok HOQ.out (show listedB (quoP p n).losses L9 = true from HLT9.out)
    have hqp := quo_pays n L9
    have h1 : playL (quoP p n) L9 = [dueL n L9] := by rw [hpl.2.2]; show [(paysS [quoT n] allT L9).1 0] = _; rw [hqp.1]
    have h2 : playN (quoP p n) L9 = keptL n L9 := by rw [hpl.2.1]; exact hqp.2
    rw [hpl.1, h2]
    obtain ⟨q2, d2, rfl, hi2⟩ := hown.slice
    rw [h1] at hi2 ⊢
    rw [show ([dueL n L9] : List Int).length = 1 from rfl] at hi2 ⊢
    have HI2 := hid hi2
    clear hb hown hi2 hpl hqp h1 h2
    have HLB := hid (listed_bd HOK.out.loss HLT9.out)
    obtain ⟨DD, hDD⟩ : ∃ v, dueL n L9 = v := ⟨_, rfl⟩
    obtain ⟨KK, hKK⟩ : ∃ v, keptL n L9 = v := ⟨_, rfl⟩
    rw [hDD] at HI2
    rw [hKK]
    have HDD := hid hDD; have HKK := hid hKK
    clear hDD hKK
    go_wp2_with fail
    go_loopw [13, 14, 15] (fun a b i wr => ∃ (j : Nat) (D K : Int), j ≤ m9 ∧ i = .int .i64 j ∧ a = .int .i64 D ∧ b = .int .i64 K ∧ (D = dueL n (L9.take j) ∧ K = keptL n (L9.take j)) ∧ (0 ≤ D ∧ D ≤ 1000 * j ∧ 0 ≤ K ∧ K ≤ 1000 * j) ∧ Below w8.heap.size w8 wr) (fun _ _ i _ => m9 - (intOf i).toNat)
    case atStart => exact ⟨0, 0, 0, by omega, rfl, rfl, rfl, ⟨rfl, rfl⟩, by omega, Below.refl _ _⟩
    case round =>
      obtain ⟨j, D, K, hj, rfl, rfl, rfl, ⟨hD, hK⟩, hbd, hbw⟩ := hrel
      have HD := hid hD; have HK := hid hK; have HBW := hid hbw
      clear hD hK hbw
      by_cases hlt : j < m9
      · skip
        obtain ⟨b1, o1, rfl, _, hc⟩ := (HT9.out.below HBW.out).at hlt
        have hjl : j < L9.length := by have := HT9.out.1; omega
        obtain ⟨a, ha⟩ : ∃ a, L9[j]? = some a := ⟨_, List.getElem?_eq_getElem hjl⟩
        rw [ha] at hc
        replace hc : wr.cell? ⟨b1, o1 + j, none⟩ = some (.int .i64 a) := hc
        have hab := HLB.out a (List.mem_of_getElem? ha)
        have HTK := hid (take_snoc ha)
        have hmm := quo_bd hnb.1 hnb.2 hab.1 hab.2
        obtain ⟨m, hm⟩ : ∃ m, a * n = m := ⟨_, rfl⟩
        rw [hm] at hmm
        obtain ⟨z, hz⟩ : ∃ z, m / 100 = z := ⟨_, rfl⟩
        rw [hz] at hmm
        have HMZ : Hid (a * n = m ∧ m / 100 = z) := hid ⟨hm, hz⟩
        have HCV : Hid (∀ V, Below wr.heap.size wr V → V.cell? ⟨b1, o1 + j, none⟩ = some (.int .i64 a)) := hid (fun V hV => (hV.cell (World.block_lt_of_cell? _ _ hc)).trans hc)
        have HQF : Hid (a * n = m ∧ IntKind.i64.wrap m = m ∧ m.tdiv 100 = z ∧ IntKind.i64.wrap z = z ∧ IntKind.i64.wrap (D + z) = D + z ∧ IntKind.i64.wrap (K + a) = K + a ∧ IntKind.i64.wrap (K + a - z) = K + a - z) := hid ⟨hm, IntWalk.i64_in _ (by omega), by rw [Int.tdiv_eq_ediv_of_nonneg hmm.1, hz], IntWalk.i64_in _ (by omega), IntWalk.i64_in _ (by omega), IntWalk.i64_in _ (by omega), IntWalk.i64_in _ (by omega)⟩
        have hw9 : IntKind.i64.wrap ((j : Int) + 1) = (j : Int) + 1 := IntWalk.i64_in _ (by omega)
        have hbn : 0 ≤ D + z ∧ D + z ≤ 1000 * ((j + 1 : Nat) : Int) ∧ 0 ≤ K + a - z ∧ K + a - z ≤ 1000 * ((j + 1 : Nat) : Int) := by
            have hza : z ≤ a := by have h9 := Int.mul_le_mul_of_nonneg_left hnb.2 hab.1; rw [hm] at h9; omega
            omega
        have HBN := hid hbn
        clear hm hz hc hjl ha hmm hbn
        go_upto_region 12 with fail
        refine wp_region_held_drew (S := fun V => Below wr.heap.size wr V) (by kernel_rfl) ((Below.refl _ _).drew) (fun hS => ?_)
        simp only [List.size_toArray, List.length_cons, List.length_nil, Nat.reduceAdd, Array.replicate_succ, Array.replicate_zero, List.push_toArray, List.nil_append, List.cons_append]
        refine tkH (i := 0) (v := ?_) (fun V hV => ?_) ?_
        rotate_left
        · go_simp
          try with_reducible rfl
        try simp only [Act.put, List.getElem_toArray, List.getElem_cons_zero, List.setIfInBounds_toArray, List.set_cons_zero, List.set_cons_succ]
        refine tkH (i := 1) (v := ?_) (fun V hV => ?_) ?_
        rotate_left
        · go_simp
          try with_reducible rfl
        try simp only [Act.put, List.getElem_toArray, List.getElem_cons_zero, List.getElem_cons_succ, List.setIfInBounds_toArray, List.set_cons_zero, List.set_cons_succ]
        refine tkH (i := 2) (v := ?_) (fun V hV => ?_) ?_
        rotate_left
        · go_simp
          try with_reducible rfl
        try simp only [Act.put, List.getElem_toArray, List.getElem_cons_zero, List.getElem_cons_succ, List.setIfInBounds_toArray, List.set_cons_zero, List.set_cons_succ]
        refine tkH (i := 3) (v := ?_) (fun V hV => ?_) ?_
        rotate_left
        · go_simp
          try with_reducible rfl
        try simp only [Act.put, List.getElem_toArray, List.getElem_cons_zero, List.getElem_cons_succ, List.setIfInBounds_toArray, List.set_cons_zero, List.set_cons_succ]
        refine tkH (i := 4) (v := ?_) (fun V hV => ?_) ?_
        rotate_left
        · have hc := HCV.out V hV; go_simp
          try with_reducible rfl
        try simp only [Act.put, List.getElem_toArray, List.getElem_cons_zero, List.getElem_cons_succ, List.setIfInBounds_toArray, List.set_cons_zero, List.set_cons_succ]
        refine tkH (i := 5) (v := ?_) (fun V hV => ?_) ?_
        rotate_left
        · go_simp
          try with_reducible rfl
        try simp only [Act.put, List.getElem_toArray, List.getElem_cons_zero, List.getElem_cons_succ, List.setIfInBounds_toArray, List.set_cons_zero, List.set_cons_succ]
        refine tkH (i := 6) (v := ?_) (fun V hV => ?_) ?_
        rotate_left
        · obtain ⟨q1, q2, q3, q4, q5, q6, q7⟩ := HQF.out; go_simp
          try with_reducible rfl
        try simp only [Act.put, List.getElem_toArray, List.getElem_cons_zero, List.getElem_cons_succ, List.setIfInBounds_toArray, List.set_cons_zero, List.set_cons_succ]
        refine tkH (i := 7) (v := ?_) (fun V hV => ?_) ?_
        rotate_left
        · obtain ⟨q1, q2, q3, q4, q5, q6, q7⟩ := HQF.out; go_simp
          try with_reducible rfl
        try simp only [Act.put, List.getElem_toArray, List.getElem_cons_zero, List.getElem_cons_succ, List.setIfInBounds_toArray, List.set_cons_zero, List.set_cons_succ]
        refine tkH (i := 8) (v := ?_) (fun V hV => ?_) ?_
        rotate_left
        · obtain ⟨q1, q2, q3, q4, q5, q6, q7⟩ := HQF.out; go_simp
          try with_reducible rfl
        try simp only [Act.put, List.getElem_toArray, List.getElem_cons_zero, List.getElem_cons_succ, List.setIfInBounds_toArray, List.set_cons_zero, List.set_cons_succ]
        refine tkH (i := 9) (v := ?_) (fun V hV => ?_) ?_
        rotate_left
        · go_simp
          try with_reducible rfl
        try simp only [Act.put, List.getElem_toArray, List.getElem_cons_zero, List.getElem_cons_succ, List.setIfInBounds_toArray, List.set_cons_zero, List.set_cons_succ]
        refine tkH (i := 10) (v := ?_) (fun V hV => ?_) ?_
        rotate_left
        · go_simp
          try with_reducible rfl
        try simp only [Act.put, List.getElem_toArray, List.getElem_cons_zero, List.getElem_cons_succ, List.setIfInBounds_toArray, List.set_cons_zero, List.set_cons_succ]
        refine tkH (i := 11) (v := ?_) (fun V hV => ?_) ?_
        rotate_left
        · go_simp
          try with_reducible rfl
        try simp only [Act.put, List.getElem_toArray, List.getElem_cons_zero, List.getElem_cons_succ, List.setIfInBounds_toArray, List.set_cons_zero, List.set_cons_succ]
        refine tkH (i := 12) (v := ?_) (fun V hV => ?_) ?_
        rotate_left
        · go_simp
          try with_reducible rfl
        try simp only [Act.put, List.getElem_toArray, List.getElem_cons_zero, List.getElem_cons_succ, List.setIfInBounds_toArray, List.set_cons_zero, List.set_cons_succ]
        refine tkH (i := 13) (v := ?_) (fun V hV => ?_) ?_
        rotate_left
        · have hc := HCV.out V hV; go_simp
          try with_reducible rfl
        try simp only [Act.put, List.getElem_toArray, List.getElem_cons_zero, List.getElem_cons_succ, List.setIfInBounds_toArray, List.set_cons_zero, List.set_cons_succ]
        refine tkH (i := 14) (v := ?_) (fun V hV => ?_) ?_
        rotate_left
        · obtain ⟨q1, q2, q3, q4, q5, q6, q7⟩ := HQF.out; go_simp
          try with_reducible rfl
        try simp only [Act.put, List.getElem_toArray, List.getElem_cons_zero, List.getElem_cons_succ, List.setIfInBounds_toArray, List.set_cons_zero, List.set_cons_succ]
        refine tkH (i := 15) (v := ?_) (fun V hV => ?_) ?_
        rotate_left
        · go_simp
          try with_reducible rfl
        try simp only [Act.put, List.getElem_toArray, List.getElem_cons_zero, List.getElem_cons_succ, List.setIfInBounds_toArray, List.set_cons_zero, List.set_cons_succ]
        refine tkH (i := 16) (v := ?_) (fun V hV => ?_) ?_
        rotate_left
        · go_simp
          try with_reducible rfl
        try simp only [Act.put, List.getElem_toArray, List.getElem_cons_zero, List.getElem_cons_succ, List.setIfInBounds_toArray, List.set_cons_zero, List.set_cons_succ]
        refine tkH (i := 17) (v := ?_) (fun V hV => ?_) ?_
        rotate_left
        · go_simp
          try with_reducible rfl
        try simp only [Act.put, List.getElem_toArray, List.getElem_cons_zero, List.getElem_cons_succ, List.setIfInBounds_toArray, List.set_cons_zero, List.set_cons_succ]
        refine tkH (i := 18) (v := ?_) (fun V hV => ?_) ?_
        rotate_left
        · have hc := HCV.out V hV; go_simp
          try with_reducible rfl
        try simp only [Act.put, List.getElem_toArray, List.getElem_cons_zero, List.getElem_cons_succ, List.setIfInBounds_toArray, List.set_cons_zero, List.set_cons_succ]
        refine tkH (i := 19) (v := ?_) (fun V hV => ?_) ?_
        rotate_left
        · go_simp
          try with_reducible rfl
        try simp only [Act.put, List.getElem_toArray, List.getElem_cons_zero, List.getElem_cons_succ, List.setIfInBounds_toArray, List.set_cons_zero, List.set_cons_succ]
        refine tkH (i := 20) (v := ?_) (fun V hV => ?_) ?_
        rotate_left
        · obtain ⟨q1, q2, q3, q4, q5, q6, q7⟩ := HQF.out; go_simp
          try with_reducible rfl
        try simp only [Act.put, List.getElem_toArray, List.getElem_cons_zero, List.getElem_cons_succ, List.setIfInBounds_toArray, List.set_cons_zero, List.set_cons_succ]
        refine tkH (i := 21) (v := ?_) (fun V hV => ?_) ?_
        rotate_left
        · obtain ⟨q1, q2, q3, q4, q5, q6, q7⟩ := HQF.out; go_simp
          try with_reducible rfl
        try simp only [Act.put, List.getElem_toArray, List.getElem_cons_zero, List.getElem_cons_succ, List.setIfInBounds_toArray, List.set_cons_zero, List.set_cons_succ]
        refine tkH (i := 22) (v := ?_) (fun V hV => ?_) ?_
        rotate_left
        · obtain ⟨q1, q2, q3, q4, q5, q6, q7⟩ := HQF.out; go_simp
          try with_reducible rfl
        try simp only [Act.put, List.getElem_toArray, List.getElem_cons_zero, List.getElem_cons_succ, List.setIfInBounds_toArray, List.set_cons_zero, List.set_cons_succ]
        refine tkH (i := 23) (v := ?_) (fun V hV => ?_) ?_
        rotate_left
        · go_simp
          try with_reducible rfl
        try simp only [Act.put, List.getElem_toArray, List.getElem_cons_zero, List.getElem_cons_succ, List.setIfInBounds_toArray, List.set_cons_zero, List.set_cons_succ]
        refine tkH (i := 24) (v := ?_) (fun V hV => ?_) ?_
        rotate_left
        · go_simp
          try with_reducible rfl
        try simp only [Act.put, List.getElem_toArray, List.getElem_cons_zero, List.getElem_cons_succ, List.setIfInBounds_toArray, List.set_cons_zero, List.set_cons_succ]
        refine wpAnyH_done (by kernel_rfl) ?_ _
        have HS9 := hid hS
        clear hS
        go_wp2_with fail
        go_roundw
        case rel => exact ⟨j + 1, D + z, K + a - z, by omega, by go_num, rfl, rfl, ⟨by rw [HTK.out, due_snoc, ← HD.out, HMZ.out.1, HMZ.out.2], by rw [HTK.out, kept_snoc, ← HK.out, HMZ.out.1, HMZ.out.2]⟩, HBN.out, HBW.out.trans (HS9.out.mono HBW.out.size)⟩
        case measure => simp [intOf]; omega
      · skip
        have hjm : m9 = j := by omega
        subst hjm
        have hte : L9.take m9 = L9 := List.take_of_length_le (by have := HT9.out.1; omega)
        have h1 : D = DD := by rw [HD.out, hte]; exact HDD.out
        have h2 : K = KK := by rw [HK.out, hte]; exact HKK.out
        subst h1 h2
        clear hte HD HK HDD HKK HT9
        have H9 := hid (H8.out.step HBW.out); replace HI2 := hid (HI2.out.below HBW.out)
        have hba : Below wr.heap.size wr (wr.alloc (.cells #[.int .i64 D] 3)) := (Below.refl _ _).alloc (Nat.le_refl _) _
        have HLI : Hid (IntsAt (wr.alloc (.cells #[.int .i64 D] 3)) (some ⟨wr.heap.size, 0, none⟩) 1 [D]) := hid (lit_ints wr [D])
        have H10 := hid (H9.out.step hba); replace HI2 := hid (HI2.out.below hba)
        clear hba
        go_wp2_with fail
        (with_reducible refine (ints_any q2 1 d2 [D] (some ⟨wr.heap.size, 0, none⟩) 1 1 [D] _ HI2.out HLI.out (by decide) (by decide)).mono ?_)
        rintro e w98 ⟨rfl, hb⟩
        rw [show decide (([D] : List Int) = [D]) = true from by simp]
        have H98 := hid (H10.out.step hb)
        clear hb
        go_wp2_with fail
        (with_reducible refine (awake_any _).mono ?_)
        rintro e w99 ⟨rfl, hb⟩
        go_wp2_with fail
        go_ret
        exact ⟨rfl, H98.out.below.trans (hb.mono H98.out.below.size)⟩
end Go.Proofs.Ytaioobhblfnlaaa
