/- TreatyEnds: both ends of the bounds of what a treaty pays and keeps, and of what the society keeps, are reached in some truth. For each programme and byte. -/
import Derived.Test.YtaioobhblfnlaaaD6
import Derived.Test.YtaioobhblfnlaaaCX
namespace Go.Proofs.Ytaioobhblfnlaaa
open Go.RowKit


theorem err_okE {p : Prg} (ok : OkP p) : errP p = if possO p allT [] = true then 0 else 11 := errP_ok (fault_iff.2 ok)
theorem pow_bdE {j : Nat} (hj : j ≤ 9) : (1 : Int) ≤ 2 ^ j ∧ (2 : Int) ^ j ≤ 512 := by
  obtain ⟨M, h1, h2, h3, _⟩ := pow_facts hj
  have : (2 : Int) ^ j = (M : Int) := by rw [← h1]; simp
  omega
def endB (p : Prg) (k : Nat) (a b r : Rng) (l : List Int) : Nat → Bool
  | 0 => (payA p l).1 k == a.lo
  | 1 => (payA p l).1 k == a.hi
  | 2 => keepsF p.ts (payA p l).1 k == b.lo
  | 3 => keepsF p.ts (payA p l).1 k == b.hi
  | 4 => (payA p l).2 == r.lo
  | 5 => (payA p l).2 == r.hi
  | _ => false
def metG (E : List Int → Nat → Bool) (L : List (List Int)) : Nat := L.foldl (fun m l => m ||| numOf (E l) 6) 0
theorem metG_snoc (E : List Int → Nat → Bool) (L : List (List Int)) (l : List Int) : metG E (L ++ [l]) = metG E L ||| numOf (E l) 6 := by unfold metG; rw [List.foldl_append]; rfl
theorem fold_bit (E : List Int → Nat → Bool) (i : Nat) : ∀ (L : List (List Int)) (m : Nat), (L.foldl (fun m l => m ||| numOf (E l) 6) m).testBit i = (m.testBit i || (decide (i < 6) && L.any fun l => E l i))
  | [], m => by simp
  | l :: L, m => by
    rw [List.foldl_cons, fold_bit E i L, Nat.testBit_or, numOf_bit, List.any_cons]
    cases m.testBit i <;> cases decide (i < 6) <;> cases E l i <;> simp
theorem metG_lt (E : List Int → Nat → Bool) (L : List (List Int)) : metG E L < 64 := by
  refine Nat.lt_pow_two_of_testBit (n := 6) _ fun i hi => ?_
  rw [metG, fold_bit, Nat.zero_testBit, decide_eq_false (by omega)]; rfl
theorem metG_all {E : List Int → Nat → Bool} {L : List (List Int)} (h : ∀ i, i < 6 → ∃ l ∈ L, E l i = true) : metG E L = 63 := by
  refine Nat.eq_of_testBit_eq fun i => ?_
  rw [metG, fold_bit, Nat.zero_testBit, show (63 : Nat) = 2 ^ 6 - 1 from rfl, Nat.testBit_two_pow_sub_one]
  by_cases hi : i < 6
  · obtain ⟨l, hl, he⟩ := h i hi
    rw [decide_eq_true hi, List.any_eq_true.2 ⟨l, hl, he⟩]; rfl
  · rw [decide_eq_false hi]; rfl
theorem reach {p : Prg} (ok : OkP p) (hp : possO p allT [] = true) (g : (Nat → Int) × Int → Int) : (∃ l ∈ truR p, g (payA p l) = (bndQ (bndO g (truO p allT []))).lo) ∧ ∃ l ∈ truR p, g (payA p l) = (bndQ (bndO g (truO p allT []))).hi := by
  obtain ⟨r, hr, hb⟩ := bndO_some g (poss_iff_ne.1 hp)
  rw [hr]
  have key : ∀ x, (∃ a ∈ truO p allT [], g a = x) → ∃ l ∈ truR p, g (payA p l) = x := fun x ⟨a, ha, e⟩ => by
    obtain ⟨l, hl, rfl, h2⟩ := mem_truO.1 ha
    exact ⟨l, (mem_truR ok).2 ⟨hl, h2⟩, e⟩
  exact ⟨key _ hb.lo, key _ hb.hi⟩
theorem ends_law {p : Prg} (ok : OkP p) (hp : possO p allT [] = true) (k : Nat) : metG (endB p k (bndPays p k) (bndKeeps p k) (netP p)) (truR p) = 63 := by
  refine metG_all fun i hi => ?_
  have hn : netP p = bndQ (bndO (fun r : (Nat → Int) × Int => r.2) (truO p allT [])) := by rw [netP, if_pos (fault_iff.2 ok)]
  have a := reach ok hp (fun r => r.1 k)
  have b := reach ok hp (fun r => keepsF p.ts r.1 k)
  have c := reach ok hp (fun r => r.2)
  rw [← hn] at c
  have hc : i = 0 ∨ i = 1 ∨ i = 2 ∨ i = 3 ∨ i = 4 ∨ i = 5 := by omega
  rcases hc with rfl | rfl | rfl | rfl | rfl | rfl
  · obtain ⟨l, hl, e⟩ := a.1; exact ⟨l, hl, by exact beq_iff_eq.2 e⟩
  · obtain ⟨l, hl, e⟩ := a.2; exact ⟨l, hl, by exact beq_iff_eq.2 e⟩
  · obtain ⟨l, hl, e⟩ := b.1; exact ⟨l, hl, by exact beq_iff_eq.2 e⟩
  · obtain ⟨l, hl, e⟩ := b.2; exact ⟨l, hl, by exact beq_iff_eq.2 e⟩
  · obtain ⟨l, hl, e⟩ := c.1; exact ⟨l, hl, by exact beq_iff_eq.2 e⟩
  · obtain ⟨l, hl, e⟩ := c.2; exact ⟨l, hl, by exact beq_iff_eq.2 e⟩
theorem truR_len {p : Prg} (ok : OkP p) : (truR p).length ≤ 100000 := by
  unfold truR
  rw [List.length_map]
  refine Nat.le_trans (List.length_filter_le _ _) ?_
  rw [List.length_range]; have := ok.many; omega
theorem bndsP_at {p : Prg} (h : errP p = 0) {k : Nat} (hk : k < p.ts.length) : (bndsP p)[k]? = some (bndPays p k, bndKeeps p k) := by rw [bndsP, if_pos h, bndsTo]; simp [hk]
theorem bndsP_len {p : Prg} (h : errP p = 0) : (bndsP p).length = p.ts.length := by rw [bndsP, if_pos h, bndsTo]; simp

set_option maxRecDepth 40000 in
set_option maxHeartbeats 16000000 in
theorem treatyEnds_any (p : Prg) (lp : Option Addr) (ln lc : Nat) (tp : Option Addr) (tn tc : Nat) (rp : Option Addr) (rn rc : Nat) (bv : Int) (w : World) (hp : PrgAt w p lp ln tp tn rp rn) (hbv : 0 ≤ bv ∧ bv ≤ 255) : Calls Try.prog 10 #[.agg #[.slice lp ln lc, .int .i64 p.reserve, .slice tp tn tc, .slice rp rn rc], .int .u8 bv] w fun e w' => e = .returned (.bool true) ∧ Below w.heap.size w w' := by
  obtain ⟨B, rfl⟩ : ∃ B : Nat, bv = (B : Int) := ⟨bv.toNat, by omega⟩
  have hB : B ≤ 255 := by omega
  have HP := hid hp
  have HTH := hid (fun W (hW : Below w.heap.size w W) => thin_any p lp ln lc tp tn tc rp rn rc W (hp.below hW))
  have HFL := hid (fun W (hW : Below w.heap.size w W) => faultL_any p lp ln lc tp tn tc rp rn rc W (hp.below hW))
  have HRD := hid (fun W (hW : Below w.heap.size w W) => ready_any p lp ln lc tp tn tc rp rn rc W (hp.below hW))
  clear hp hbv
  have H0 : Hid (Boxed1 w #[.slice lp ln lc, .int .i64 p.reserve, .slice tp tn tc, .slice rp rn rc] 26 (w.alloc (.cells #[.slice lp ln lc, .int .i64 p.reserve, .slice tp tn tc, .slice rp rn rc] 26))) := hid (Boxed1.start _ _ _)
  go_enter Try.func10, Try.ntmps10
  have e0 := H0.out.cell 0 (v := .slice lp ln lc) rfl; have e1 := H0.out.cell 1 (v := .int .i64 p.reserve) rfl; have e2 := H0.out.cell 2 (v := .slice tp tn tc) rfl; have e3 := H0.out.cell 3 (v := .slice rp rn rc) rfl
  go_wp2_with fail
  (with_reducible refine (HRD.out _ ?_).mono ?_)
  · exact H0.out.below
  rintro e w1 ⟨rfl, hb⟩
  have H1 := hid (H0.out.step hb)
  clear e0 e1 e2 e3 hb 
  cases hrd : readyB p
  · clear hrd
    go_wp2_with fail
    (with_reducible refine (awake_any _).mono ?_)
    rintro e w99 ⟨rfl, hb⟩
    go_wp2_with fail
    go_ret
    exact ⟨rfl, H1.out.below.trans (hb.mono H1.out.below.size)⟩
  · have HOK := hid (ready_iff.1 hrd).1
    have hln : ln ≤ 4 := by have := HP.out.l.1; have := HOK.out.n4; omega
    have htn : tn ≤ 5 := by have := HP.out.t.1; have := HOK.out.m5; omega
    have hrn : rn ≤ 5 := by have := HP.out.r.1; have := HOK.out.k5; omega
    clear hrd
    by_cases ht0 : tn = 0
    · subst ht0
      have e0 := H1.out.cell 0 (v := .slice lp ln lc) rfl; have e1 := H1.out.cell 1 (v := .int .i64 p.reserve) rfl; have e2 := H1.out.cell 2 (v := .slice tp 0 tc) rfl; have e3 := H1.out.cell 3 (v := .slice rp rn rc) rfl
      go_wp2_with fail
      (with_reducible refine (awake_any _).mono ?_)
      rintro e w99 ⟨rfl, hb⟩
      go_wp2_with fail
      go_ret
      exact ⟨rfl, H1.out.below.trans (hb.mono H1.out.below.size)⟩
    · have ht0i : ¬ (tn : Int) = 0 := by omega
      obtain ⟨k, hk⟩ : ∃ k, B % tn = k := ⟨_, rfl⟩
      have hkt : k < tn := by rw [← hk]; exact Nat.mod_lt _ (by omega)
      have hmod : (B : Int).tmod (tn : Int) = (k : Int) := by rw [Int.tmod_eq_emod_of_nonneg (by omega), ← hk]; omega
      have hcv : IntKind.i64.wrap (B : Int) = (B : Int) := IntWalk.i64_in _ (by omega)
      have hcv2 : IntKind.i64.wrap (k : Int) = (k : Int) := IntWalk.i64_in _ (by omega)
      have hmod2 : (B : Int) % (tn : Int) = (k : Int) := by rw [← hk]; omega
      clear hk
      have e0 := H1.out.cell 0 (v := .slice lp ln lc) rfl; have e1 := H1.out.cell 1 (v := .int .i64 p.reserve) rfl; have e2 := H1.out.cell 2 (v := .slice tp tn tc) rfl; have e3 := H1.out.cell 3 (v := .slice rp rn rc) rfl
      go_upto_region 4 with fail
      clear hmod hmod2 hcv hcv2
      clear e0 e1 e2 e3 ht0 ht0i
      have e0 := H1.out.cell 0 (v := .slice lp ln lc) rfl; have e1 := H1.out.cell 1 (v := .int .i64 p.reserve) rfl; have e2 := H1.out.cell 2 (v := .slice tp tn tc) rfl; have e3 := H1.out.cell 3 (v := .slice rp rn rc) rfl
      go_wp2_with fail
      (with_reducible refine (prog_any p lp ln lc tp tn tc rp rn rc w1 (HP.out.below H1.out.below) (by omega) (by omega) (by omega)).mono ?_)
      rintro e w2 ⟨lq1, lc1, tq1, tc1, rq1, rc1, rfl, hpx, hcx, hb⟩
      have H2 := hid (H1.out.step hb)
      have HP1 := hid hpx; have HC1 := hid hcx
      clear e0 e1 e2 e3 hb hpx hcx
      obtain ⟨ev, hev⟩ : ∃ v, errP p = v := ⟨_, rfl⟩
      have HEV := hid hev
      clear hev
      go_wp2_with fail
      refine (bounds_any p lq1 ln lc1 tq1 tn tc1 rq1 rn rc1 w2 HP1.out).mono ?_
      rintro e w3 ⟨v, rfl, hown, hb⟩
      have H3 := hid (H2.out.step hb)
      replace HP1 := hid (HP1.out.below hb)
      obtain ⟨qb, db, rfl, hrb⟩ := hown.slice cellsB_len
      obtain ⟨mb, hmb⟩ : ∃ m, (bndsP p).length = m := ⟨_, rfl⟩
      have HMB := hid hmb
      rw [hmb] at hrb ⊢
      have HRB := hid hrb
      rw [HEV.out]
      clear hb hrb hown hmb
      have e0 := H3.out.cell 0 (v := .slice lp ln lc) rfl; have e1 := H3.out.cell 1 (v := .int .i64 p.reserve) rfl; have e2 := H3.out.cell 2 (v := .slice tp tn tc) rfl; have e3 := H3.out.cell 3 (v := .slice rp rn rc) rfl
      go_wp2_with fail
      (with_reducible refine (prog_any p lp ln lc tp tn tc rp rn rc w3 (HP.out.below H3.out.below) (by omega) (by omega) (by omega)).mono ?_)
      rintro e w4 ⟨lq2, lc2, tq2, tc2, rq2, rc2, rfl, hpx, hcx, hb⟩
      have H4 := hid (H3.out.step hb)
      replace HRB := hid (HRB.out.below hb)
      have HP2 := hid hpx; have HC2 := hid hcx
      clear e0 e1 e2 e3 hb hpx hcx
      go_wp2_with fail
      refine (net_any p lq2 ln lc2 tq2 tn tc2 rq2 rn rc2 w4 HP2.out).mono ?_
      rintro e w5 ⟨rfl, hb⟩
      have H5 := hid (H4.out.step hb)
      replace HRB := hid (HRB.out.below hb)
      replace HP2 := hid (HP2.out.below hb)
      clear hb 
      obtain ⟨R, hR⟩ : ∃ R, netP p = R := ⟨_, rfl⟩
      rw [hR, HEV.out]
      have HRR := hid hR
      clear hR
      go_upto_region 6 with fail
      obtain ⟨w6, hw6⟩ : ∃ V, w5.alloc (.cells #[.int .i64 R.lo, .int .i64 R.hi] 51) = V := ⟨_, rfl⟩
      rw [hw6]
      have hb : Below w5.heap.size w5 w6 := by rw [← hw6]; exact (Below.refl _ _).alloc (Nat.le_refl _) _
      have HX : Hid (BoxIs w5.heap.size #[.int .i64 R.lo, .int .i64 R.hi] w6) := hid (by rw [← hw6]; exact BoxIs.start _ _ _)
      clear hw6
      have H6 := hid (H5.out.step hb)
      replace HRB := hid (HRB.out.below hb)
      clear hb
      have HEQ := hid (err_okE HOK.out)
      cases hpo : possO p allT []
      · have he : ev = 11 := by rw [← HEV.out, HEQ.out, hpo]; rfl
        subst he
        go_wp2_with fail
        (with_reducible refine (awake_any _).mono ?_)
        rintro e w99 ⟨rfl, hb⟩
        go_wp2_with fail
        go_ret
        exact ⟨rfl, H6.out.below.trans (hb.mono H6.out.below.size)⟩
      · have he : ev = 0 := by rw [← HEV.out, HEQ.out, hpo]; rfl
        subst he
        have HPO := hid hpo
        clear hpo HEQ
        have hmt : tn = mb := by rw [← HMB.out, bndsP_len HEV.out, HP.out.t.1]
        subst hmt
        have HLAW := hid (ends_law HOK.out HPO.out k)
        obtain ⟨r1, hr1⟩ : ∃ r, bndPays p k = r := ⟨_, rfl⟩
        obtain ⟨r2, hr2⟩ : ∃ r, bndKeeps p k = r := ⟨_, rfl⟩
        have hbk := bndsP_at HEV.out (show k < p.ts.length by have := HP.out.t.1; omega)
        rw [hr1, hr2] at hbk HLAW
        rw [HRR.out] at HLAW
        obtain ⟨bb, bo, hqb, hlb, hcb⟩ := HRB.out.2 k _ hbk
        subst hqb
        have HCB : Hid (∀ V, Below w6.heap.size w6 V → ∀ i v, (cellsB (r1, r2))[i]? = some v → V.cell? ⟨bb, bo + k * 4 + i, none⟩ = some v) := hid (fun V hV i v hi => (hV.cell (p := ⟨bb, _, none⟩) hlb).trans (hcb i v hi))
        have HTL := hid (truR_len HOK.out)
        have HLS := hid (fun l hl => ((mem_truR HOK.out (l := l)).1 hl).1)
        clear hr1 hr2 hbk hlb hcb HRR HMB HRB
        have HWB : Hid (Below w6.heap.size w6 w6) := hid (Below.refl _ _)
        have e0 := H6.out.cell 0 (v := .slice lp ln lc) rfl; have e1 := H6.out.cell 1 (v := .int .i64 p.reserve) rfl; have e2 := H6.out.cell 2 (v := .slice tp tn tc) rfl; have e3 := H6.out.cell 3 (v := .slice rp rn rc) rfl
        go_wp2_with fail
        refine (truthsR_any p lp ln lc tp tn tc rp rn rc w6 (HP.out.below H6.out.below) HOK.out).mono ?_
        rintro e w7 ⟨ql, cl, rfl, hls, hb⟩
        have H7 := hid (H6.out.step hb)
        replace HX := hid (HX.out.below hb)
        obtain ⟨Ls, hLs⟩ : ∃ L, truR p = L := ⟨_, rfl⟩
        rw [hLs] at hls HLS HTL HLAW ⊢
        obtain ⟨NN, hNN⟩ : ∃ v, Ls.length = v := ⟨_, rfl⟩
        rw [hNN] at hls HTL ⊢
        have HLT := hid hls
        have HNN := hid hNN
        have HWB := hid (HWB.out.trans hb)
        clear e0 e1 e2 e3 hb hls hNN hLs
        go_wp2_with fail
        go_loopw [11, 12] (fun m i wr => ∃ n : Nat, n ≤ NN ∧ i = .int .i64 n ∧ m = .int .i64 ((metG (endB p k r1 r2 R) (Ls.take n) : Nat) : Int) ∧ Below w7.heap.size w7 wr) (fun _ i _ => NN - (intOf i).toNat)
        case atStart => exact ⟨0, by omega, rfl, rfl, Below.refl _ _⟩
        case round =>
          obtain ⟨n, hn, rfl, rfl, hbw⟩ := hrel
          have HBW := hid hbw
          have HBr := hid (H7.out.step hbw)
          have HXr := hid (HX.out.below hbw)
          have HWr := hid (HWB.out.trans (hbw.mono HWB.out.size))
          clear hbw
          obtain ⟨mt, hmt⟩ : ∃ m, metG (endB p k r1 r2 R) (Ls.take n) = m := ⟨_, rfl⟩
          have HMT := hid hmt
          have hm64 : mt < 64 := by rw [← hmt]; exact metG_lt _ _
          rw [hmt]
          clear hmt
          by_cases hlt : n < NN
          · skip
            have hw9 : IntKind.i64.wrap ((n : Int) + 1) = (n : Int) + 1 := IntWalk.i64_in _ (by have := HTL.out; omega)
            obtain ⟨ds, hd1, hd2, hd3⟩ := HLT.out.below HBW.out
            have hkl : n < Ls.length := by have := HNN.out; omega
            obtain ⟨l, hlk⟩ : ∃ l, Ls[n]? = some l := ⟨_, List.getElem?_eq_getElem hkl⟩
            obtain ⟨d, hdk⟩ : ∃ d, ds[n]? = some d := ⟨_, List.getElem?_eq_getElem (by omega)⟩
            have HIL := hid (hd3 n d l hdk hlk)
            obtain ⟨b0, o0, rfl, hb0, hc0⟩ := hd1.2 n d hdk
            have c0 := hc0 0 (.slice d.1 d.2.1 d.2.2) rfl
            rw [Nat.mul_one, Nat.add_zero] at c0
            obtain ⟨dp, dn, dc⟩ := d
            have HIL : Hid (IntsAt wr dp dn l) := HIL
            have HTK := hid (take_snoc hlk)
            have hls := HLS.out l (List.mem_of_getElem? hlk)
            have HLO := hid (listed_bd HOK.out.loss hls)
            have hll := listed_len hls
            have hdn : dn ≤ 100 := by have h1 : dn = l.length := HIL.out.1; have := HOK.out.n4; omega
            have HPO9 := hid (pays_ok HOK.out.ots allT HLO.out)
            have HPE := hid (pays_every p tn HP.out.t.1 l)
            have HEB := hid (everyN_bd (show tn ≤ 9 by omega))
            have HC : Hid (∀ V, Below wr.heap.size wr V → V.cell? ⟨b0, o0 + n, none⟩ = some (.slice dp dn dc)) := hid (fun V hV => (hV.cell (World.block_lt_of_cell? _ _ c0)).trans c0)
            clear hd1 hd2 hd3 hdk hlk hb0 hc0 c0 hls hll hkl
            go_upto_region 15 with fail
            refine wp_region_held_drew (S := fun V => Boxed1 w #[.slice lp ln lc, .int .i64 p.reserve, .slice tp tn tc, .slice rp rn rc] 26 V ∧ Below wr.heap.size wr V) (by kernel_rfl) (⟨HBr.out.drew, (Below.refl _ _).drew⟩) (fun hS => ?_)
            simp only [List.size_toArray, List.length_cons, List.length_nil, Nat.reduceAdd, Array.replicate_succ, Array.replicate_zero, List.push_toArray, List.nil_append, List.cons_append]
            refine tkH (i := 0) (v := ?_) (fun V hV => ?_) ?_
            rotate_left
            · have e0 := hV.1.cell 0 (v := .slice lp ln lc) rfl; have e1 := hV.1.cell 1 (v := .int .i64 p.reserve) rfl; have e2 := hV.1.cell 2 (v := .slice tp tn tc) rfl; have e3 := hV.1.cell 3 (v := .slice rp rn rc) rfl; go_simp
              try with_reducible rfl
            try simp only [Act.put, List.getElem_toArray, List.getElem_cons_zero, List.setIfInBounds_toArray, List.set_cons_zero, List.set_cons_succ]
            refine tkH (i := 1) (v := ?_) (fun V hV => ?_) ?_
            rotate_left
            · go_simp
              try with_reducible rfl
            try simp only [Act.put, List.getElem_toArray, List.getElem_cons_zero, List.getElem_cons_succ, List.setIfInBounds_toArray, List.set_cons_zero, List.set_cons_succ]
            refine tkH (i := 2) (v := ?_) (fun V hV => ?_) ?_
            rotate_left
            · go_simp
              try with_reducible rfl
            try simp only [Act.put, List.getElem_toArray, List.getElem_cons_zero, List.getElem_cons_succ, List.setIfInBounds_toArray, List.set_cons_zero, List.set_cons_succ]
            refine tkH (i := 3) (v := ?_) (fun V hV => ?_) ?_
            rotate_left
            · go_simp
              try with_reducible rfl
            try simp only [Act.put, List.getElem_toArray, List.getElem_cons_zero, List.getElem_cons_succ, List.setIfInBounds_toArray, List.set_cons_zero, List.set_cons_succ]
            refine tkH (i := 4) (v := ?_) (fun V hV => ?_) ?_
            rotate_left
            · have c0 := HC.out V hV.2; go_simp
              try with_reducible rfl
            try simp only [Act.put, List.getElem_toArray, List.getElem_cons_zero, List.getElem_cons_succ, List.setIfInBounds_toArray, List.set_cons_zero, List.set_cons_succ]
            refine tkH (i := 5) (v := ?_) (fun V hV => ?_) ?_
            rotate_left
            · have e0 := hV.1.cell 0 (v := .slice lp ln lc) rfl; have e1 := hV.1.cell 1 (v := .int .i64 p.reserve) rfl; have e2 := hV.1.cell 2 (v := .slice tp tn tc) rfl; have e3 := hV.1.cell 3 (v := .slice rp rn rc) rfl; go_simp
              try with_reducible rfl
            try simp only [Act.put, List.getElem_toArray, List.getElem_cons_zero, List.getElem_cons_succ, List.setIfInBounds_toArray, List.set_cons_zero, List.set_cons_succ]
            refine wpAnyH_ready (rs := [6]) (by kernel_rfl) (by simp) ?_
            refine AllReadyH.cons (o := _) rfl (fun K hK => ?_) AllReadyH.nil
            go_simp
            (with_reducible refine (every_any p lp ln lc tp tn tc rp rn rc _ (by omega)).mono ?_)
            rintro e v6 ⟨rfl, hb⟩
            refine hK.out _ _ (⟨hS.1.step hb, hS.2.trans (hb.mono hS.2.size)⟩) (fun hS => ?_)
            clear hK K
            try simp only [List.setIfInBounds_toArray, List.set_cons_zero, List.set_cons_succ]
            refine wpAnyH_ready (rs := [7]) (by kernel_rfl) (by simp) ?_
            refine AllReadyH.cons (o := _) rfl (fun K hK => ?_) AllReadyH.nil
            have hil := HIL.out.below hS.2
            go_simp
            (with_reducible refine (pays_any p lp ln lc tp tn tc rp rn rc dp dn dc l (everyN tn) _ (HP.out.below hS.1.below) hil htn hdn HOK.out.ots HLO.out HEB.out.1 HEB.out.2).mono ?_)
            rintro e v7 ⟨q7, c7, rfl, hi7, hb⟩
            rw [HPE.out] at hi7 ⊢
            obtain ⟨F, hF⟩ : ∃ f, payA p l = f := ⟨_, rfl⟩
            have HPO8 : Hid (∀ i, 0 ≤ F.1 i ∧ F.1 i ≤ 100000) := hid (fun i => by have h1 := HPO9.out.1.lo i; have h2 := HPO9.out.1.hi i; have h3 := HOK.out.n4; have h4 := hdn; rw [show paysS p.ts allT l = F from hF] at h1 h2; have h5 : dn = l.length := HIL.out.1; omega)
            rw [hF] at hi7 ⊢
            have HF := hid hF
            have HI7 := hid hi7
            clear hi7 hF hil
            refine hK.out _ _ (⟨hS.1.step hb, hS.2.trans (hb.mono hS.2.size)⟩) (fun hS => ?_)
            clear hK K
            try simp only [List.setIfInBounds_toArray, List.set_cons_zero, List.set_cons_succ]
            refine tkH (i := 8) (v := ?_) (fun V hV => ?_) ?_
            rotate_left
            · go_simp
              try with_reducible rfl
            try simp only [Act.put, List.getElem_toArray, List.getElem_cons_zero, List.getElem_cons_succ, List.setIfInBounds_toArray, List.set_cons_zero, List.set_cons_succ]
            refine tkH (i := 9) (v := ?_) (fun V hV => ?_) ?_
            rotate_left
            · go_simp
              try with_reducible rfl
            try simp only [Act.put, List.getElem_toArray, List.getElem_cons_zero, List.getElem_cons_succ, List.setIfInBounds_toArray, List.set_cons_zero, List.set_cons_succ]
            refine tkH (i := 10) (v := ?_) (fun V hV => ?_) ?_
            rotate_left
            · go_simp
              try with_reducible rfl
            try simp only [Act.put, List.getElem_toArray, List.getElem_cons_zero, List.getElem_cons_succ, List.setIfInBounds_toArray, List.set_cons_zero, List.set_cons_succ]
            refine tkH (i := 11) (v := ?_) (fun V hV => ?_) ?_
            rotate_left
            · go_simp
              try with_reducible rfl
            try simp only [Act.put, List.getElem_toArray, List.getElem_cons_zero, List.getElem_cons_succ, List.setIfInBounds_toArray, List.set_cons_zero, List.set_cons_succ]
            refine tkH (i := 12) (v := ?_) (fun V hV => ?_) ?_
            rotate_left
            · go_simp
              try with_reducible rfl
            try simp only [Act.put, List.getElem_toArray, List.getElem_cons_zero, List.getElem_cons_succ, List.setIfInBounds_toArray, List.set_cons_zero, List.set_cons_succ]
            refine wpAnyH_done (by kernel_rfl) ?_ _
            have HB7 := hid hS.1; have HX7 := hid (HXr.out.below hS.2); have HW7 := hid (HWr.out.trans (hS.2.mono HWr.out.size)); have HD7 := hid hS.2
            clear hS
            have e0 := HB7.out.cell 0 (v := .slice lp ln lc) rfl; have e1 := HB7.out.cell 1 (v := .int .i64 p.reserve) rfl; have e2 := HB7.out.cell 2 (v := .slice tp tn tc) rfl; have e3 := HB7.out.cell 3 (v := .slice rp rn rc) rfl
            go_wp2_with fail
            (with_reducible refine (keepsL_any p lp ln lc tp tn tc rp rn rc q7 c7 F.1 k _ (HP.out.below HB7.out.below) htn hkt HI7.out HPO8.out).mono ?_)
            rintro e v16 ⟨rfl, hb⟩
            have HB8 := hid (HB7.out.step hb); have HX8 := hid (HX7.out.below hb); have HW8 := hid (HW7.out.trans (hb.mono HW7.out.size)); have HD8 := hid (HD7.out.trans (hb.mono HD7.out.size)); have HI8 := hid (HI7.out.below hb)
            clear hb e0 e1 e2 e3
            obtain ⟨KP, hKP⟩ : ∃ v, keepsF p.ts F.1 k = v := ⟨_, rfl⟩
            rw [hKP]
            have HKP := hid hKP
            clear hKP
            obtain ⟨b9, o9, rfl, _, d9⟩ := HI8.out.at hkt
            rw [ofF_at _ hkt] at d9
            obtain ⟨FK, hFK⟩ : ∃ v, F.1 k = v := ⟨_, rfl⟩
            rw [hFK] at d9
            have HFK := hid hFK
            have HD9 : Hid (∀ V, Below v16.heap.size v16 V → V.cell? ⟨b9, o9 + k, none⟩ = some (.int .i64 FK)) := hid (fun V hV => (hV.cell (World.block_lt_of_cell? _ _ d9)).trans d9)
            clear d9 hFK
            obtain ⟨F2, hF2⟩ : ∃ v, F.2 = v := ⟨_, rfl⟩
            rw [hF2]
            have HF2 := hid hF2
            clear hF2
            go_upto_region 17 with fail
            refine wp_region_held_drew (S := fun V => Below v16.heap.size v16 V) (by kernel_rfl) ((Below.refl _ _).drew) (fun hS => ?_)
            simp only [List.size_toArray, List.length_cons, List.length_nil, Nat.reduceAdd, Array.replicate_succ, Array.replicate_zero, List.push_toArray, List.nil_append, List.cons_append]
            refine tkH (i := 0) (v := ?_) (fun V hV => ?_) ?_
            rotate_left
            · go_simp
              try with_reducible rfl
            try simp only [Act.put, List.getElem_toArray, List.getElem_cons_zero, List.setIfInBounds_toArray, List.set_cons_zero, List.set_cons_succ]
            refine tkH (i := 1) (v := ?_) (fun V hV => ?_) ?_
            rotate_left
            · go_simp
              try with_reducible rfl
            try simp only [Act.put, List.getElem_toArray, List.getElem_cons_zero, List.getElem_cons_succ, List.setIfInBounds_toArray, List.set_cons_zero, List.set_cons_succ]
            refine tkH (i := 2) (v := ?_) (fun V hV => ?_) ?_
            rotate_left
            · go_simp
              try with_reducible rfl
            try simp only [Act.put, List.getElem_toArray, List.getElem_cons_zero, List.getElem_cons_succ, List.setIfInBounds_toArray, List.set_cons_zero, List.set_cons_succ]
            refine tkH (i := 3) (v := ?_) (fun V hV => ?_) ?_
            rotate_left
            · have c9 := HD9.out V hV; go_simp
              try with_reducible rfl
            try simp only [Act.put, List.getElem_toArray, List.getElem_cons_zero, List.getElem_cons_succ, List.setIfInBounds_toArray, List.set_cons_zero, List.set_cons_succ]
            refine tkH (i := 4) (v := ?_) (fun V hV => ?_) ?_
            rotate_left
            · go_simp
              try with_reducible rfl
            try simp only [Act.put, List.getElem_toArray, List.getElem_cons_zero, List.getElem_cons_succ, List.setIfInBounds_toArray, List.set_cons_zero, List.set_cons_succ]
            refine tkH (i := 5) (v := ?_) (fun V hV => ?_) ?_
            rotate_left
            · go_simp
              try with_reducible rfl
            try simp only [Act.put, List.getElem_toArray, List.getElem_cons_zero, List.getElem_cons_succ, List.setIfInBounds_toArray, List.set_cons_zero, List.set_cons_succ]
            refine tkH (i := 6) (v := ?_) (fun V hV => ?_) ?_
            rotate_left
            · go_simp
              try with_reducible rfl
            try simp only [Act.put, List.getElem_toArray, List.getElem_cons_zero, List.getElem_cons_succ, List.setIfInBounds_toArray, List.set_cons_zero, List.set_cons_succ]
            refine tkH (i := 7) (v := ?_) (fun V hV => ?_) ?_
            rotate_left
            · go_simp
              try with_reducible rfl
            try simp only [Act.put, List.getElem_toArray, List.getElem_cons_zero, List.getElem_cons_succ, List.setIfInBounds_toArray, List.set_cons_zero, List.set_cons_succ]
            refine tkH (i := 8) (v := ?_) (fun V hV => ?_) ?_
            rotate_left
            · go_simp
              try with_reducible rfl
            try simp only [Act.put, List.getElem_toArray, List.getElem_cons_zero, List.getElem_cons_succ, List.setIfInBounds_toArray, List.set_cons_zero, List.set_cons_succ]
            refine tkH (i := 9) (v := ?_) (fun V hV => ?_) ?_
            rotate_left
            · have d0 := HCB.out V (HW8.out.trans (hV.mono HW8.out.size)) 0 _ rfl; have d1 := HCB.out V (HW8.out.trans (hV.mono HW8.out.size)) 1 _ rfl; have d2 := HCB.out V (HW8.out.trans (hV.mono HW8.out.size)) 2 _ rfl; have d3 := HCB.out V (HW8.out.trans (hV.mono HW8.out.size)) 3 _ rfl; rw [Nat.add_zero] at d0; go_simp
              try with_reducible rfl
            try simp only [Act.put, List.getElem_toArray, List.getElem_cons_zero, List.getElem_cons_succ, List.setIfInBounds_toArray, List.set_cons_zero, List.set_cons_succ]
            refine tkH (i := 10) (v := ?_) (fun V hV => ?_) ?_
            rotate_left
            · go_simp
              try with_reducible rfl
            try simp only [Act.put, List.getElem_toArray, List.getElem_cons_zero, List.getElem_cons_succ, List.setIfInBounds_toArray, List.set_cons_zero, List.set_cons_succ]
            refine tkH (i := 11) (v := ?_) (fun V hV => ?_) ?_
            rotate_left
            · go_simp
              try with_reducible rfl
            try simp only [Act.put, List.getElem_toArray, List.getElem_cons_zero, List.getElem_cons_succ, List.setIfInBounds_toArray, List.set_cons_zero, List.set_cons_succ]
            refine tkH (i := 12) (v := ?_) (fun V hV => ?_) ?_
            rotate_left
            · go_simp
              try with_reducible rfl
            try simp only [Act.put, List.getElem_toArray, List.getElem_cons_zero, List.getElem_cons_succ, List.setIfInBounds_toArray, List.set_cons_zero, List.set_cons_succ]
            refine tkH (i := 13) (v := ?_) (fun V hV => ?_) ?_
            rotate_left
            · go_simp
              try with_reducible rfl
            try simp only [Act.put, List.getElem_toArray, List.getElem_cons_zero, List.getElem_cons_succ, List.setIfInBounds_toArray, List.set_cons_zero, List.set_cons_succ]
            refine tkH (i := 14) (v := ?_) (fun V hV => ?_) ?_
            rotate_left
            · have c9 := HD9.out V hV; go_simp
              try with_reducible rfl
            try simp only [Act.put, List.getElem_toArray, List.getElem_cons_zero, List.getElem_cons_succ, List.setIfInBounds_toArray, List.set_cons_zero, List.set_cons_succ]
            refine tkH (i := 15) (v := ?_) (fun V hV => ?_) ?_
            rotate_left
            · go_simp
              try with_reducible rfl
            try simp only [Act.put, List.getElem_toArray, List.getElem_cons_zero, List.getElem_cons_succ, List.setIfInBounds_toArray, List.set_cons_zero, List.set_cons_succ]
            refine tkH (i := 16) (v := ?_) (fun V hV => ?_) ?_
            rotate_left
            · go_simp
              try with_reducible rfl
            try simp only [Act.put, List.getElem_toArray, List.getElem_cons_zero, List.getElem_cons_succ, List.setIfInBounds_toArray, List.set_cons_zero, List.set_cons_succ]
            refine tkH (i := 17) (v := ?_) (fun V hV => ?_) ?_
            rotate_left
            · go_simp
              try with_reducible rfl
            try simp only [Act.put, List.getElem_toArray, List.getElem_cons_zero, List.getElem_cons_succ, List.setIfInBounds_toArray, List.set_cons_zero, List.set_cons_succ]
            refine tkH (i := 18) (v := ?_) (fun V hV => ?_) ?_
            rotate_left
            · go_simp
              try with_reducible rfl
            try simp only [Act.put, List.getElem_toArray, List.getElem_cons_zero, List.getElem_cons_succ, List.setIfInBounds_toArray, List.set_cons_zero, List.set_cons_succ]
            refine tkH (i := 19) (v := ?_) (fun V hV => ?_) ?_
            rotate_left
            · go_simp
              try with_reducible rfl
            try simp only [Act.put, List.getElem_toArray, List.getElem_cons_zero, List.getElem_cons_succ, List.setIfInBounds_toArray, List.set_cons_zero, List.set_cons_succ]
            refine tkH (i := 20) (v := ?_) (fun V hV => ?_) ?_
            rotate_left
            · have d0 := HCB.out V (HW8.out.trans (hV.mono HW8.out.size)) 0 _ rfl; have d1 := HCB.out V (HW8.out.trans (hV.mono HW8.out.size)) 1 _ rfl; have d2 := HCB.out V (HW8.out.trans (hV.mono HW8.out.size)) 2 _ rfl; have d3 := HCB.out V (HW8.out.trans (hV.mono HW8.out.size)) 3 _ rfl; rw [Nat.add_zero] at d0; go_simp
              try with_reducible rfl
            try simp only [Act.put, List.getElem_toArray, List.getElem_cons_zero, List.getElem_cons_succ, List.setIfInBounds_toArray, List.set_cons_zero, List.set_cons_succ]
            refine tkH (i := 21) (v := ?_) (fun V hV => ?_) ?_
            rotate_left
            · go_simp
              try with_reducible rfl
            try simp only [Act.put, List.getElem_toArray, List.getElem_cons_zero, List.getElem_cons_succ, List.setIfInBounds_toArray, List.set_cons_zero, List.set_cons_succ]
            refine tkH (i := 22) (v := ?_) (fun V hV => ?_) ?_
            rotate_left
            · go_simp
              try with_reducible rfl
            try simp only [Act.put, List.getElem_toArray, List.getElem_cons_zero, List.getElem_cons_succ, List.setIfInBounds_toArray, List.set_cons_zero, List.set_cons_succ]
            refine tkH (i := 23) (v := ?_) (fun V hV => ?_) ?_
            rotate_left
            · go_simp
              try with_reducible rfl
            try simp only [Act.put, List.getElem_toArray, List.getElem_cons_zero, List.getElem_cons_succ, List.setIfInBounds_toArray, List.set_cons_zero, List.set_cons_succ]
            refine tkH (i := 24) (v := ?_) (fun V hV => ?_) ?_
            rotate_left
            · go_simp
              try with_reducible rfl
            try simp only [Act.put, List.getElem_toArray, List.getElem_cons_zero, List.getElem_cons_succ, List.setIfInBounds_toArray, List.set_cons_zero, List.set_cons_succ]
            refine tkH (i := 25) (v := ?_) (fun V hV => ?_) ?_
            rotate_left
            · go_simp
              try with_reducible rfl
            try simp only [Act.put, List.getElem_toArray, List.getElem_cons_zero, List.getElem_cons_succ, List.setIfInBounds_toArray, List.set_cons_zero, List.set_cons_succ]
            refine tkH (i := 26) (v := ?_) (fun V hV => ?_) ?_
            rotate_left
            · go_simp
              try with_reducible rfl
            try simp only [Act.put, List.getElem_toArray, List.getElem_cons_zero, List.getElem_cons_succ, List.setIfInBounds_toArray, List.set_cons_zero, List.set_cons_succ]
            refine tkH (i := 27) (v := ?_) (fun V hV => ?_) ?_
            rotate_left
            · go_simp
              try with_reducible rfl
            try simp only [Act.put, List.getElem_toArray, List.getElem_cons_zero, List.getElem_cons_succ, List.setIfInBounds_toArray, List.set_cons_zero, List.set_cons_succ]
            refine tkH (i := 28) (v := ?_) (fun V hV => ?_) ?_
            rotate_left
            · have d0 := HCB.out V (HW8.out.trans (hV.mono HW8.out.size)) 0 _ rfl; have d1 := HCB.out V (HW8.out.trans (hV.mono HW8.out.size)) 1 _ rfl; have d2 := HCB.out V (HW8.out.trans (hV.mono HW8.out.size)) 2 _ rfl; have d3 := HCB.out V (HW8.out.trans (hV.mono HW8.out.size)) 3 _ rfl; rw [Nat.add_zero] at d0; go_simp
              try with_reducible rfl
            try simp only [Act.put, List.getElem_toArray, List.getElem_cons_zero, List.getElem_cons_succ, List.setIfInBounds_toArray, List.set_cons_zero, List.set_cons_succ]
            refine tkH (i := 29) (v := ?_) (fun V hV => ?_) ?_
            rotate_left
            · go_simp
              try with_reducible rfl
            try simp only [Act.put, List.getElem_toArray, List.getElem_cons_zero, List.getElem_cons_succ, List.setIfInBounds_toArray, List.set_cons_zero, List.set_cons_succ]
            refine tkH (i := 30) (v := ?_) (fun V hV => ?_) ?_
            rotate_left
            · go_simp
              try with_reducible rfl
            try simp only [Act.put, List.getElem_toArray, List.getElem_cons_zero, List.getElem_cons_succ, List.setIfInBounds_toArray, List.set_cons_zero, List.set_cons_succ]
            refine tkH (i := 31) (v := ?_) (fun V hV => ?_) ?_
            rotate_left
            · go_simp
              try with_reducible rfl
            try simp only [Act.put, List.getElem_toArray, List.getElem_cons_zero, List.getElem_cons_succ, List.setIfInBounds_toArray, List.set_cons_zero, List.set_cons_succ]
            refine tkH (i := 32) (v := ?_) (fun V hV => ?_) ?_
            rotate_left
            · go_simp
              try with_reducible rfl
            try simp only [Act.put, List.getElem_toArray, List.getElem_cons_zero, List.getElem_cons_succ, List.setIfInBounds_toArray, List.set_cons_zero, List.set_cons_succ]
            refine tkH (i := 33) (v := ?_) (fun V hV => ?_) ?_
            rotate_left
            · go_simp
              try with_reducible rfl
            try simp only [Act.put, List.getElem_toArray, List.getElem_cons_zero, List.getElem_cons_succ, List.setIfInBounds_toArray, List.set_cons_zero, List.set_cons_succ]
            refine tkH (i := 34) (v := ?_) (fun V hV => ?_) ?_
            rotate_left
            · go_simp
              try with_reducible rfl
            try simp only [Act.put, List.getElem_toArray, List.getElem_cons_zero, List.getElem_cons_succ, List.setIfInBounds_toArray, List.set_cons_zero, List.set_cons_succ]
            refine tkH (i := 35) (v := ?_) (fun V hV => ?_) ?_
            rotate_left
            · go_simp
              try with_reducible rfl
            try simp only [Act.put, List.getElem_toArray, List.getElem_cons_zero, List.getElem_cons_succ, List.setIfInBounds_toArray, List.set_cons_zero, List.set_cons_succ]
            refine tkH (i := 36) (v := ?_) (fun V hV => ?_) ?_
            rotate_left
            · have d0 := HCB.out V (HW8.out.trans (hV.mono HW8.out.size)) 0 _ rfl; have d1 := HCB.out V (HW8.out.trans (hV.mono HW8.out.size)) 1 _ rfl; have d2 := HCB.out V (HW8.out.trans (hV.mono HW8.out.size)) 2 _ rfl; have d3 := HCB.out V (HW8.out.trans (hV.mono HW8.out.size)) 3 _ rfl; rw [Nat.add_zero] at d0; go_simp
              try with_reducible rfl
            try simp only [Act.put, List.getElem_toArray, List.getElem_cons_zero, List.getElem_cons_succ, List.setIfInBounds_toArray, List.set_cons_zero, List.set_cons_succ]
            refine tkH (i := 37) (v := ?_) (fun V hV => ?_) ?_
            rotate_left
            · go_simp
              try with_reducible rfl
            try simp only [Act.put, List.getElem_toArray, List.getElem_cons_zero, List.getElem_cons_succ, List.setIfInBounds_toArray, List.set_cons_zero, List.set_cons_succ]
            refine tkH (i := 38) (v := ?_) (fun V hV => ?_) ?_
            rotate_left
            · go_simp
              try with_reducible rfl
            try simp only [Act.put, List.getElem_toArray, List.getElem_cons_zero, List.getElem_cons_succ, List.setIfInBounds_toArray, List.set_cons_zero, List.set_cons_succ]
            refine tkH (i := 39) (v := ?_) (fun V hV => ?_) ?_
            rotate_left
            · go_simp
              try with_reducible rfl
            try simp only [Act.put, List.getElem_toArray, List.getElem_cons_zero, List.getElem_cons_succ, List.setIfInBounds_toArray, List.set_cons_zero, List.set_cons_succ]
            refine tkH (i := 40) (v := ?_) (fun V hV => ?_) ?_
            rotate_left
            · have hX := HX8.out.below hV; have x0 := (hX.2 0 (.int .i64 R.lo) rfl).1; have x1 := (hX.2 1 (.int .i64 R.hi) rfl).1; go_simp
              try with_reducible rfl
            try simp only [Act.put, List.getElem_toArray, List.getElem_cons_zero, List.getElem_cons_succ, List.setIfInBounds_toArray, List.set_cons_zero, List.set_cons_succ]
            refine tkH (i := 41) (v := ?_) (fun V hV => ?_) ?_
            rotate_left
            · go_simp
              try with_reducible rfl
            try simp only [Act.put, List.getElem_toArray, List.getElem_cons_zero, List.getElem_cons_succ, List.setIfInBounds_toArray, List.set_cons_zero, List.set_cons_succ]
            refine tkH (i := 42) (v := ?_) (fun V hV => ?_) ?_
            rotate_left
            · go_simp
              try with_reducible rfl
            try simp only [Act.put, List.getElem_toArray, List.getElem_cons_zero, List.getElem_cons_succ, List.setIfInBounds_toArray, List.set_cons_zero, List.set_cons_succ]
            refine tkH (i := 43) (v := ?_) (fun V hV => ?_) ?_
            rotate_left
            · go_simp
              try with_reducible rfl
            try simp only [Act.put, List.getElem_toArray, List.getElem_cons_zero, List.getElem_cons_succ, List.setIfInBounds_toArray, List.set_cons_zero, List.set_cons_succ]
            refine tkH (i := 44) (v := ?_) (fun V hV => ?_) ?_
            rotate_left
            · have hX := HX8.out.below hV; have x0 := (hX.2 0 (.int .i64 R.lo) rfl).1; have x1 := (hX.2 1 (.int .i64 R.hi) rfl).1; go_simp
              try with_reducible rfl
            try simp only [Act.put, List.getElem_toArray, List.getElem_cons_zero, List.getElem_cons_succ, List.setIfInBounds_toArray, List.set_cons_zero, List.set_cons_succ]
            refine tkH (i := 45) (v := ?_) (fun V hV => ?_) ?_
            rotate_left
            · go_simp
              try with_reducible rfl
            try simp only [Act.put, List.getElem_toArray, List.getElem_cons_zero, List.getElem_cons_succ, List.setIfInBounds_toArray, List.set_cons_zero, List.set_cons_succ]
            refine tkH (i := 46) (v := ?_) (fun V hV => ?_) ?_
            rotate_left
            · go_simp
              try with_reducible rfl
            try simp only [Act.put, List.getElem_toArray, List.getElem_cons_zero, List.getElem_cons_succ, List.setIfInBounds_toArray, List.set_cons_zero, List.set_cons_succ]
            refine wpAnyH_ready (rs := [47]) (by kernel_rfl) (by simp) ?_
            refine AllReadyH.cons (o := _) rfl (fun K hK => ?_) AllReadyH.nil
            obtain ⟨v47, hv47⟩ : ∃ V, v16.drew.alloc (.cells #[.bool false, .bool false, .bool false, .bool false, .bool false, .bool false] 98) = V := ⟨_, rfl⟩
            have hb : Below v16.heap.size v16 v47 := by rw [← hv47]; exact ((Below.refl _ _).drew).alloc (Nat.le_refl _) _
            have HNX : Hid (BoxIs v16.heap.size #[.bool false, .bool false, .bool false, .bool false, .bool false, .bool false] v47) := hid (by rw [← hv47]; exact BoxIs.start v16.drew _ _)
            clear hS
            go_simp
            clear hv47
            have HBX := hid hb
            clear hb
            refine hK.out _ _ (HBX.out) (fun hS => ?_)
            clear hK K
            try simp only [List.setIfInBounds_toArray, List.set_cons_zero, List.set_cons_succ]
            refine wpAnyH_ready (rs := [48]) (by kernel_rfl) (by simp) ?_
            refine AllReadyH.cons (o := _) rfl (fun K hK => ?_) AllReadyH.nil
            have k0 := (HNX.out.2 0 (.bool false) rfl).1; have f0 := (HNX.out.2 0 (.bool false) rfl).2; have k1 := (HNX.out.2 1 (.bool false) rfl).1; have f1 := (HNX.out.2 1 (.bool false) rfl).2; have k2 := (HNX.out.2 2 (.bool false) rfl).1; have f2 := (HNX.out.2 2 (.bool false) rfl).2; have k3 := (HNX.out.2 3 (.bool false) rfl).1; have f3 := (HNX.out.2 3 (.bool false) rfl).2; have k4 := (HNX.out.2 4 (.bool false) rfl).1; have f4 := (HNX.out.2 4 (.bool false) rfl).2; have k5 := (HNX.out.2 5 (.bool false) rfl).1; have f5 := (HNX.out.2 5 (.bool false) rfl).2
            have HPX : Hid (BoxIs v16.heap.size #[.bool (FK == r1.lo), .bool (FK == r1.hi), .bool (KP == r2.lo), .bool (KP == r2.hi), .bool (F2 == R.lo), .bool (F2 == R.hi)] ((((((v47.setCell ⟨v16.heap.size, 0, none⟩ (.bool (FK == r1.lo))).setCell ⟨v16.heap.size, 1, none⟩ (.bool (FK == r1.hi))).setCell ⟨v16.heap.size, 2, none⟩ (.bool (KP == r2.lo))).setCell ⟨v16.heap.size, 3, none⟩ (.bool (KP == r2.hi))).setCell ⟨v16.heap.size, 4, none⟩ (.bool (F2 == R.lo))).setCell ⟨v16.heap.size, 5, none⟩ (.bool (F2 == R.hi)))) := hid ((((((HNX.out.put (j := 0) (.bool (FK == r1.lo))).put (j := 1) (.bool (FK == r1.hi))).put (j := 2) (.bool (KP == r2.lo))).put (j := 3) (.bool (KP == r2.hi))).put (j := 4) (.bool (F2 == R.lo))).put (j := 5) (.bool (F2 == R.hi)))
            have HNQ : Hid (Below v16.heap.size v16 ((((((v47.setCell ⟨v16.heap.size, 0, none⟩ (.bool (FK == r1.lo))).setCell ⟨v16.heap.size, 1, none⟩ (.bool (FK == r1.hi))).setCell ⟨v16.heap.size, 2, none⟩ (.bool (KP == r2.lo))).setCell ⟨v16.heap.size, 3, none⟩ (.bool (KP == r2.hi))).setCell ⟨v16.heap.size, 4, none⟩ (.bool (F2 == R.lo))).setCell ⟨v16.heap.size, 5, none⟩ (.bool (F2 == R.hi)))) := hid ((((((HBX.out.setCell (p := ⟨v16.heap.size, 0, none⟩) (Nat.le_refl _) (.bool (FK == r1.lo))).setCell (p := ⟨v16.heap.size, 1, none⟩) (Nat.le_refl _) (.bool (FK == r1.hi))).setCell (p := ⟨v16.heap.size, 2, none⟩) (Nat.le_refl _) (.bool (KP == r2.lo))).setCell (p := ⟨v16.heap.size, 3, none⟩) (Nat.le_refl _) (.bool (KP == r2.hi))).setCell (p := ⟨v16.heap.size, 4, none⟩) (Nat.le_refl _) (.bool (F2 == R.lo))).setCell (p := ⟨v16.heap.size, 5, none⟩) (Nat.le_refl _) (.bool (F2 == R.hi)))
            clear hS
            go_simp
            clear k0 f0 k1 f1 k2 f2 k3 f3 k4 f4 k5 f5
            generalize ((((((v47.setCell ⟨v16.heap.size, 0, none⟩ (.bool (FK == r1.lo))).setCell ⟨v16.heap.size, 1, none⟩ (.bool (FK == r1.hi))).setCell ⟨v16.heap.size, 2, none⟩ (.bool (KP == r2.lo))).setCell ⟨v16.heap.size, 3, none⟩ (.bool (KP == r2.hi))).setCell ⟨v16.heap.size, 4, none⟩ (.bool (F2 == R.lo))).setCell ⟨v16.heap.size, 5, none⟩ (.bool (F2 == R.hi))) = v48 at HPX HNQ ⊢
            refine hK.out _ _ (HNQ.out) (fun hS => ?_)
            clear hK K
            try simp only [List.setIfInBounds_toArray, List.set_cons_zero, List.set_cons_succ]
            refine wpAnyH_done (by kernel_rfl) ?_ _
            clear hS
            have HB9 := hid (HB8.out.step HNQ.out); have HD10 := hid (HD8.out.trans (HNQ.out.mono HD8.out.size))
            have HEE : Hid (∀ i v, (#[.bool (FK == r1.lo), .bool (FK == r1.hi), .bool (KP == r2.lo), .bool (KP == r2.hi), .bool (F2 == R.lo), .bool (F2 == R.hi)] : Array Value)[i]? = some v → i < 6 → v = .bool (endB p k r1 r2 R l i)) := hid (fun i v hv hi => by
              have hc : i = 0 ∨ i = 1 ∨ i = 2 ∨ i = 3 ∨ i = 4 ∨ i = 5 := by omega
              rcases hc with rfl | rfl | rfl | rfl | rfl | rfl <;> (simp at hv; subst hv; rw [endB, HF.out]; first | rw [HFK.out] | rw [HKP.out] | rw [HF2.out]))
            have HCI : Hid (∀ i, i < 6 → ∀ V, Below v48.heap.size v48 V → V.cell? ⟨v16.heap.size, i, none⟩ = some (.bool (endB p k r1 r2 R l i))) := hid (fun i hi V hV => by
              obtain ⟨v, hv⟩ : ∃ v, (#[.bool (FK == r1.lo), .bool (FK == r1.hi), .bool (KP == r2.lo), .bool (KP == r2.hi), .bool (F2 == R.lo), .bool (F2 == R.hi)] : Array Value)[i]? = some v := ⟨_, Array.getElem?_eq_getElem (by simpa using hi)⟩
              rw [← HEE.out i v hv hi]
              exact ((HPX.out.below hV).2 i v hv).1)
            obtain ⟨EB, hEB⟩ : ∃ f, endB p k r1 r2 R l = f := ⟨_, rfl⟩
            have HEB9 := hid hEB
            rw [hEB] at HCI
            clear hEB HEE HPX HNX HBX HX8 HD9 HFK HKP HF2 HF HI8 HI7
            obtain ⟨wo, hwo⟩ : ∃ W, W = wr := ⟨_, rfl⟩
            subst hwo
            go_wp2_with fail
            go_loopw [11, 17] (fun m i wr => ∃ j : Nat, j ≤ 6 ∧ i = .int .i64 j ∧ m = .int .i64 ((mt ||| numOf EB j : Nat) : Int) ∧ Below v48.heap.size v48 wr) (fun _ i _ => 6 - (intOf i).toNat)
            case atStart => exact ⟨0, by omega, rfl, by rw [numOf, Nat.or_zero], Below.refl _ _⟩
            case round =>
              obtain ⟨j, hj, rfl, rfl, hbw⟩ := hrel
              have HBJ := hid hbw
              clear hbw
              have h64 : numOf EB j < 64 := Nat.lt_of_lt_of_le (numOf_lt EB j) (Nat.pow_le_pow_right (n := 2) (by decide) hj)
              have hor : (mt ||| numOf EB j) < 64 := Nat.or_lt_two_pow (n := 6) hm64 h64
              by_cases hlj : j < 6
              · have c0 := HCI.out j hlj _ HBJ.out
                have hw8 : IntKind.i64.wrap ((j : Int) + 1) = (j : Int) + 1 := IntWalk.i64_in _ (by omega)
                obtain ⟨mo, hmo⟩ : ∃ m, (mt ||| numOf EB j) = m := ⟨_, rfl⟩
                rw [hmo] at hor ⊢
                cases hej : EB j
                · rw [hej] at c0
                  have HNO : Hid ((mt ||| numOf EB (j + 1)) = mo) := hid (by rw [numOf_no hej]; exact hmo)
                  clear hmo h64
                  go_wp2_with fail
                  go_roundw
                  case rel => exact ⟨j + 1, by omega, by go_num, by rw [HNO.out], HBJ.out⟩
                  case measure => simp [intOf]; omega
                · rw [hej] at c0
                  have HNO : Hid ((mt ||| numOf EB (j + 1)) = (mo ||| 2 ^ j)) := hid (by rw [numOf_or hej, ← Nat.or_assoc, hmo])
                  clear hmo h64
                  have e1 : IntKind.u64.wrap (j : Int) = (j : Int) := by rw [IntKind.wrap_u64]; omega
                  have hp2 := pow_bdE (show j ≤ 9 by omega)
                  have e3 : IntKind.i64.wrap (2 ^ j) = 2 ^ j := IntWalk.i64_in _ (by omega)
                  have e4 : bits .or .i64 (mo : Int) (2 ^ j) = ((mo ||| 2 ^ j : Nat) : Int) := by
                    have h2 : ((2 ^ j : Nat) : Int) = (2 : Int) ^ j := (by simp)
                    rw [← h2]; exact i64_or_nat _ _ (by omega) (by have := Nat.pow_lt_pow_right (a := 2) (by decide) (show j < 12 by omega); omega)
                  clear hp2
                  go_wp2_with fail
                  go_roundw
                  case rel => exact ⟨j + 1, by omega, by go_num, by rw [HNO.out], HBJ.out⟩
                  case measure => simp [intOf]; omega
              · have hj6 : j = 6 := by omega
                subst hj6
                have HME : Hid (metG (endB p k r1 r2 R) (Ls.take (n + 1)) = (mt ||| numOf EB 6)) := hid (by rw [HTK.out, metG_snoc, HMT.out, HEB9.out])
                clear HCI h64
                go_wp2_with fail
                go_roundw
                case rel => exact ⟨n + 1, by omega, by go_num, by rw [HME.out], HBW.out.trans ((HD10.out.trans (HBJ.out.mono HD10.out.size)).mono HBW.out.size)⟩
                case measure => simp [intOf]; omega
          · skip
            have hnn : n = NN := by omega
            subst hnn
            have hte : Ls.take n = Ls := List.take_of_length_le (by have := HNN.out; omega)
            have h63 : mt = 63 := by rw [← HMT.out, hte]; exact HLAW.out
            subst h63
            clear hte
            go_wp2_with fail
            (with_reducible refine (awake_any _).mono ?_)
            rintro e w99 ⟨rfl, hb⟩
            go_wp2_with fail
            go_ret
            exact ⟨rfl, HBr.out.below.trans (hb.mono HBr.out.below.size)⟩
end Go.Proofs.Ytaioobhblfnlaaa
