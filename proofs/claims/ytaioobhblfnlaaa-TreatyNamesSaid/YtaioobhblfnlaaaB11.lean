/- The reference: which reports are right in each truth. No condition but a valid programme. -/
import Derived.Test.YtaioobhblfnlaaaB10
namespace Go.Proofs.Ytaioobhblfnlaaa
open Go.RowKit

def allT : Nat → Bool := fun _ => true
theorem ph1_th {ts : List Tre} {th th' : Nat → Bool} (h : ∀ i, i < ts.length → th i = th' i) (pd : Nat → Int) (loss : Int) : ∀ k, ph1 ts th pd loss k = ph1 ts th' pd loss k
  | 0 => rfl
  | k + 1 => by
    rw [ph1, ph1, ph1_th h pd loss k]
    cases hk : ts[k]? with
    | none => rfl
    | some t => simp only [tk1, h k (List.getElem?_eq_some_iff.1 hk).1]
theorem tot_th {ts : List Tre} {th th' : Nat → Bool} (h : ∀ i, i < ts.length → th i = th' i) : ∀ (l : List Int) (s : (Nat → Int) × Int), totS ts th l s = totS ts th' l s
  | [], _ => rfl
  | n :: l, s => by
    rw [totS, totS, tot_th h l]
    have e : nowO ts th s.1 n = nowO ts th' s.1 n := by unfold nowO; rw [ph1_th h]
    have e2 : keptO ts th s.1 n = keptO ts th' s.1 n := by unfold keptO; rw [ph1_th h]
    rw [e, e2]
theorem pays_th {ts : List Tre} {th th' : Nat → Bool} (h : ∀ i, i < ts.length → th i = th' i) (l : List Int) : paysS ts th l = paysS ts th' l := tot_th h l _
theorem every_th (n i : Nat) (h : i < n) : bitB (everyN n) i = true := by
  unfold everyN
  rw [low_bit]; simpa using h
/-- What all treaties pay in a truth, and what the society keeps. -/
def payA (p : Prg) (l : List Int) : (Nat → Int) × Int := paysS p.ts allT l
theorem pays_every (p : Prg) (n : Nat) (hn : n = p.ts.length) (l : List Int) : paysS p.ts (bitB (everyN n)) l = payA p l := pays_th (fun i hi => every_th n i (by omega)) l
theorem tot_ok {ts : List Tre} (hts : OkTs ts) (th : Nat → Bool) : ∀ (l : List Int) (s : (Nat → Int) × Int) (b : Int), (∀ x ∈ l, 0 ≤ x ∧ x ≤ 1000) → PdOk ts s.1 b → 0 ≤ s.2 → s.2 ≤ b →
    PdOk ts (totS ts th l s).1 (b + 1000 * l.length) ∧ 0 ≤ (totS ts th l s).2 ∧ (totS ts th l s).2 ≤ b + 1000 * l.length
  | [], s, b, _, h1, h2, h3 => by simpa [totS] using ⟨h1, h2, h3⟩
  | n :: l, s, b, hl, h1, h2, h3 => by
    have hn := hl n (by simp)
    have h := now_ok hts th h1 hn.1 hn.2
    have ih := tot_ok hts th l (fun i => s.1 i + nowO ts th s.1 n i, s.2 + keptO ts th s.1 n) (b + 1000) (fun x hx => hl x (by simp [hx])) h.1 (by show 0 ≤ s.2 + _; omega) (by show s.2 + _ ≤ _; omega)
    rw [totS, List.length_cons]
    have e : b + 1000 + 1000 * (l.length : Int) = b + 1000 * ((l.length + 1 : Nat) : Int) := by push_cast; omega
    rw [e] at ih
    exact ih
theorem pays_ok {ts : List Tre} (hts : OkTs ts) (th : Nat → Bool) {l : List Int} (hl : ∀ x ∈ l, 0 ≤ x ∧ x ≤ 1000) : PdOk ts (paysS ts th l).1 (1000 * l.length) ∧ 0 ≤ (paysS ts th l).2 ∧ (paysS ts th l).2 ≤ 1000 * l.length := by
  have h := tot_ok hts th l (zeroF, 0) 0 hl (pd_zero hts) (Int.le_refl _) (Int.le_refl _)
  simpa [paysS] using h
theorem OkP.ots {p : Prg} (h : OkP p) : OkTs p.ts := h.tre
/-- Whether a report is right. -/
def rightB (f : Nat → Int) (x : Rep) : Bool := inB (f x.tr.toNat) x.paid.lo x.paid.hi
def rightI (f : Nat → Int) (l : List Rep) (i : Nat) : Bool := match l[i]? with
  | some x => rightB f x
  | none => true
/-- The reports that are right, by bits. -/
def rightN (p : Prg) (l : List Int) : Nat := numOf (rightI (payA p l).1 p.reps) p.reps.length
def allTo (p : Prg) (k : Nat) : List Nat := (List.range k).map fun m : Nat => rightN p (nthL p.losses m)
def allP (p : Prg) : List Nat := allTo p (prodL p.losses).toNat
theorem allTo_succ (p : Prg) (k : Nat) : castL (allTo p (k + 1)) = castL (allTo p k) ++ [((rightN p (nthL p.losses k) : Nat) : Int)] := by
  unfold castL allTo
  rw [List.range_succ]
  simp
theorem allTo_len (p : Prg) (k : Nat) : (castL (allTo p k)).length = k := by simp [castL, allTo]
theorem numOf_or {f : Nat → Bool} {j : Nat} (h : f j = true) : numOf f (j + 1) = numOf f j ||| 2 ^ j := by
  refine Nat.eq_of_testBit_eq fun p => ?_
  rw [Nat.testBit_or, numOf_bit, numOf_bit, Nat.testBit_two_pow]
  by_cases e : j = p
  · subst e; simp [h]
  · have : decide (p < j + 1) = decide (p < j) := by rw [decide_eq_decide]; omega
    simp [e, this]

theorem numOf_no {f : Nat → Bool} {j : Nat} (h : f j = false) : numOf f (j + 1) = numOf f j := by
  rw [numOf, h]; simp
theorem nth_bd {p : Prg} (ok : OkP p) (n : Int) (hn : 0 ≤ n) : (nthL p.losses n).length = p.losses.length ∧ ∀ x ∈ nthL p.losses n, 0 ≤ x ∧ x ≤ 1000 :=
  have h := nth_listed ok.cnt n hn
  ⟨listed_len h, listed_bd ok.loss h⟩

set_option maxRecDepth 100000 in
set_option maxHeartbeats 16000000 in
theorem all_any (p : Prg) (lp : Option Addr) (ln lc : Nat) (tp : Option Addr) (tn tc : Nat) (rp : Option Addr) (rn rc : Nat) (w : World) (hp : PrgAt w p lp ln tp tn rp rn) (ok : OkP p) :
    Calls Try.prog 45 #[.agg #[.slice lp ln lc, .int .i64 p.reserve, .slice tp tn tc, .slice rp rn rc]] w (RetInts w (castL (allP p))) := by
  have HP := hid hp
  have HLN := hid hp.l.1; have HTN := hid hp.t.1; have HRN := hid hp.r.1
  have hln4 : ln ≤ 4 := by rw [hp.l.1]; exact ok.n4
  have htn5 : tn ≤ 5 := by rw [hp.t.1]; exact ok.m5
  have hrn5 : rn ≤ 5 := by rw [hp.r.1]; exact ok.k5
  have HM := hid (fun W (hW : Below w.heap.size w W) => many_any p lp ln lc tp tn tc rp rn rc W (hp.below hW) (by omega) ok.lossOk)
  have HNT := hid (fun W (k : Nat) (hk : k ≤ 1000000) (hW : Below w.heap.size w W) => nth_any p lp ln lc tp tn tc rp rn rc (k : Int) W (hp.below hW) (by omega) ok.lossOk (by omega) (by omega))
  have HEV := hid (fun W => every_any p lp ln lc tp tn tc rp rn rc W (by omega))
  have OK := hid ok
  have hm1 := ok.pos; have hm2 := ok.many
  clear hp ok
  obtain ⟨M, hM⟩ : ∃ M : Nat, prodL p.losses = M := ⟨(prodL p.losses).toNat, by rw [Int.toNat_of_nonneg (by omega)]⟩
  have HA : Hid (allP p = allTo p M) := by show _ = _; rw [allP, hM]; rfl
  have HMM : Hid (minI 2000 (prodL p.losses) = (M : Int)) := hid (by rw [hM]; unfold minI; rw [if_pos (by omega)])
  rw [hM] at hm1 hm2
  rw [HMM.out] at HM
  have hM9 : M ≤ 1500 := by omega
  clear hm1 hm2 hM
  have HEB : Hid (0 ≤ everyN tn ∧ everyN tn < 4096) := hid (by obtain ⟨X, hX, hX1, hX2, _⟩ := pow_facts (show tn ≤ 9 by omega); unfold everyN; rw [hX]; omega)
  go_enter Try.func45, Try.ntmps45
  go_wp2
  go_loopw [3, 4] (fun v i wr => ∃ k : Nat, k ≤ M ∧ i = .int .i64 k ∧ OwnInts wr (w.heap.size + 1) v (castL (allTo p k)) ∧ Boxed1 w #[.slice lp ln lc, .int .i64 p.reserve, .slice tp tn tc, .slice rp rn rc] 26 wr) (fun _ i _ => M - (intOf i).toNat)
  case atStart => exact ⟨0, by omega, rfl, ownInts_nil _ _, Boxed1.start _ _ _⟩
  case round =>
    obtain ⟨k, hk, rfl, hown, hb⟩ := hrel
    have HO := hid hown; have HB := hid hb
    clear hown
    have e0 := hb.cell 0 (v := .slice lp ln lc) rfl; have e1 := hb.cell 1 (v := .int .i64 p.reserve) rfl; have e2 := hb.cell 2 (v := .slice tp tn tc) rfl; have e3 := hb.cell 3 (v := .slice rp rn rc) rfl
    clear hb
    go_wp2_with fail
    (with_reducible refine (HM.out _ ?_).mono ?_)
    · exact HB.out.below
    rintro e w1 ⟨rfl, hb⟩
    have HB1 := hid (HB.out.step hb); have HO1 := hid (HO.out.below hb)
    clear e0 e1 e2 e3 hb
    by_cases hlt : k < M
    · have HS := hid (allTo_succ p k)
      have HAL : Hid ((castL (allTo p k)).length ≤ 1000000) := hid (by rw [allTo_len]; omega)
      have HNT2 := hid (fun W hW => HNT.out W k (by omega) hW)
      have hnb := nth_bd OK.out (k : Int) (by omega)
      obtain ⟨L, hL⟩ : ∃ l, nthL p.losses (k : Int) = l := ⟨_, rfl⟩
      rw [hL] at HNT2 HS hnb
      have HLB := hid hnb
      have HPO := hid (pays_ok OK.out.ots allT hnb.2)
      have HPE := hid (pays_every p tn HTN.out L)
      have HRD : Hid (rightN p L = numOf (rightI (payA p L).1 p.reps) p.reps.length) := hid rfl
      clear hL hnb
      obtain ⟨F, hF⟩ : ∃ f, payA p L = f := ⟨_, rfl⟩
      have HFF : Hid (∀ i, 0 ≤ F.1 i ∧ F.1 i ≤ 4000) := hid (fun i => by have h1 := HPO.out.1.lo i; have h2 := HPO.out.1.hi i; have h3 := HLB.out.1; have h4 := OK.out.n4; rw [show paysS p.ts allT L = F from hF] at h1 h2; omega)
      rw [hF] at HPE HRD
      clear hF
      go_upto_region 5 with fail
      refine wp_region_held_drew (S := fun V => Boxed1 w #[.slice lp ln lc, .int .i64 p.reserve, .slice tp tn tc, .slice rp rn rc] 26 V) (by kernel_rfl) (HB1.out.drew) (fun hS => ?_)
      simp only [List.size_toArray, List.length_cons, List.length_nil, Nat.reduceAdd, Array.replicate_succ, Array.replicate_zero, List.push_toArray, List.nil_append, List.cons_append]
      refine tkH (i := 0) (v := ?_) (fun V hV => ?_) ?_
      rotate_left
      · have e0 := hV.cell 0 (v := .slice lp ln lc) rfl; have e1 := hV.cell 1 (v := .int .i64 p.reserve) rfl; have e2 := hV.cell 2 (v := .slice tp tn tc) rfl; have e3 := hV.cell 3 (v := .slice rp rn rc) rfl; go_simp
        try with_reducible rfl
      try simp only [Act.put, List.getElem_toArray, List.getElem_cons_zero, List.setIfInBounds_toArray, List.set_cons_zero, List.set_cons_succ]
      refine tkH (i := 1) (v := ?_) (fun V hV => ?_) ?_
      rotate_left
      · have e0 := hV.cell 0 (v := .slice lp ln lc) rfl; have e1 := hV.cell 1 (v := .int .i64 p.reserve) rfl; have e2 := hV.cell 2 (v := .slice tp tn tc) rfl; have e3 := hV.cell 3 (v := .slice rp rn rc) rfl; go_simp
        try with_reducible rfl
      try simp only [Act.put, List.getElem_toArray, List.getElem_cons_zero, List.getElem_cons_succ, List.setIfInBounds_toArray, List.set_cons_zero, List.set_cons_succ]
      refine tkH (i := 2) (v := ?_) (fun V hV => ?_) ?_
      rotate_left
      · go_simp
        try with_reducible rfl
      try simp only [Act.put, List.getElem_toArray, List.getElem_cons_zero, List.getElem_cons_succ, List.setIfInBounds_toArray, List.set_cons_zero, List.set_cons_succ]
      refine tkH (i := 4) (v := ?_) (fun V hV => ?_) ?_
      rotate_left
      · have e0 := hV.cell 0 (v := .slice lp ln lc) rfl; have e1 := hV.cell 1 (v := .int .i64 p.reserve) rfl; have e2 := hV.cell 2 (v := .slice tp tn tc) rfl; have e3 := hV.cell 3 (v := .slice rp rn rc) rfl; go_simp
        try with_reducible rfl
      try simp only [Act.put, List.getElem_toArray, List.getElem_cons_zero, List.getElem_cons_succ, List.setIfInBounds_toArray, List.set_cons_zero, List.set_cons_succ]
      refine wpAnyH_ready (rs := [3]) (by kernel_rfl) (by simp) ?_
      refine AllReadyH.cons (o := _) rfl (fun K hK => ?_) AllReadyH.nil
      go_simp
      (with_reducible refine (HNT2.out _ hS.below).mono ?_)
      rintro e w3 ⟨v3, rfl, ho3, hb⟩
      obtain ⟨q3, c3, rfl, hi3⟩ := ho3.slice
      have HO3 := hid ((HO1.out.below (Below.refl _ _).drew).below hb)
      have HI3 := hid hi3
      clear ho3 hi3
      obtain ⟨N3, hN3⟩ : ∃ n, L.length = n := ⟨_, rfl⟩
      rw [hN3] at HI3 ⊢
      have HN3 : Hid (N3 ≤ 4) := hid (by have h1 := HLB.out.1; have h2 := OK.out.n4; omega)
      clear hN3
      refine hK.out _ _ (hS.step hb) (fun hS => ?_)
      clear hK K
      try simp only [List.setIfInBounds_toArray, List.set_cons_zero, List.set_cons_succ]
      refine wpAnyH_ready (rs := [5]) (by kernel_rfl) (by simp) ?_
      refine AllReadyH.cons (o := _) rfl (fun K hK => ?_) AllReadyH.nil
      go_simp
      (with_reducible refine (HEV.out _).mono ?_)
      rintro e w5 ⟨rfl, hb⟩
      have HO5 := hid (HO3.out.below hb); have HI5 := hid (HI3.out.below hb)
      refine hK.out _ _ (hS.step hb) (fun hS => ?_)
      clear hK K
      try simp only [List.setIfInBounds_toArray, List.set_cons_zero, List.set_cons_succ]
      refine wpAnyH_ready (rs := [6]) (by kernel_rfl) (by simp) ?_
      refine AllReadyH.cons (o := _) rfl (fun K hK => ?_) AllReadyH.nil
      go_simp
      (with_reducible refine (pays_any p lp ln lc tp tn tc rp rn rc q3 N3 c3 L (everyN tn) _ (HP.out.below hS.below) HI5.out (by omega) (by have := HN3.out; omega) OK.out.ots HLB.out.2 HEB.out.1 HEB.out.2).mono ?_)
      rintro e w6 ⟨q6, c6, rfl, hi6, hb⟩
      rw [HPE.out] at hi6
      rw [HPE.out]
      have HO6 := hid (HO5.out.below hb); have HI6 := hid hi6
      clear hi6
      refine hK.out _ _ (hS.step hb) (fun hS => ?_)
      clear hK K
      try simp only [List.setIfInBounds_toArray, List.set_cons_zero, List.set_cons_succ]
      refine tkH (i := 7) (v := ?_) (fun V hV => ?_) ?_
      rotate_left
      · go_simp
        try with_reducible rfl
      try simp only [Act.put, List.getElem_toArray, List.getElem_cons_zero, List.getElem_cons_succ, List.setIfInBounds_toArray, List.set_cons_zero, List.set_cons_succ]
      refine tkH (i := 8) (v := ?_) (fun V hV => ?_) ?_
      rotate_left
      · go_simp
        try with_reducible rfl
      try simp only [Act.put, List.getElem_toArray, List.getElem_cons_zero, List.getElem_cons_succ, List.setIfInBounds_toArray, List.set_cons_zero, List.set_cons_succ]
      refine tkH (i := 9) (v := ?_) (fun V hV => ?_) ?_
      rotate_left
      · go_simp
        try with_reducible rfl
      try simp only [Act.put, List.getElem_toArray, List.getElem_cons_zero, List.getElem_cons_succ, List.setIfInBounds_toArray, List.set_cons_zero, List.set_cons_succ]
      refine tkH (i := 10) (v := ?_) (fun V hV => ?_) ?_
      rotate_left
      · go_simp
        try with_reducible rfl
      try simp only [Act.put, List.getElem_toArray, List.getElem_cons_zero, List.getElem_cons_succ, List.setIfInBounds_toArray, List.set_cons_zero, List.set_cons_succ]
      refine tkH (i := 11) (v := ?_) (fun V hV => ?_) ?_
      rotate_left
      · go_simp
        try with_reducible rfl
      try simp only [Act.put, List.getElem_toArray, List.getElem_cons_zero, List.getElem_cons_succ, List.setIfInBounds_toArray, List.set_cons_zero, List.set_cons_succ]
      refine wpAnyH_done (by kernel_rfl) ?_ _
      have HB6 := hid hS
      clear hS
      go_wp2_with fail
      obtain ⟨wo, rfl⟩ : ∃ wo : World, wo = w6 := ⟨_, rfl⟩
      go_loopw [7, 8] (fun b i wr => ∃ j : Nat, j ≤ rn ∧ i = .int .i64 j ∧ b = .int .i64 ((numOf (rightI F.1 p.reps) j : Nat) : Int) ∧ IntsAt wr q6 tn (ofF F.1 tn) ∧ OwnInts wr (w.heap.size + 1) u3 (castL (allTo p k)) ∧ Boxed1 w #[.slice lp ln lc, .int .i64 p.reserve, .slice tp tn tc, .slice rp rn rc] 26 wr) (fun _ i _ => rn - (intOf i).toNat)
      case atStart => exact ⟨0, by omega, rfl, rfl, HI6.out, HO6.out, HB6.out⟩
      case round =>
        clear HI6 HO6 HB6
        obtain ⟨j, hj, rfl, rfl, hi, hown, hb⟩ := hrel
        have HI := hid hi; have HOO := hid hown; have HBB := hid hb
        clear hi hown
        by_cases hltj : j < rn
        · obtain ⟨x, hx, b1, o1, rfl, hb1, hc0, hc1, hc2⟩ := (HP.out.r.below hb.below).rep hltj
          have HX := hid hx
          have hxo := (OK.out.rep x (List.mem_of_getElem? hx)).1
          have HFX : Hid (rightI F.1 p.reps j = rightB F.1 x) := by show _ = _; rw [rightI, hx]
          have hz : numOf (rightI F.1 p.reps) j < 4096 := Nat.lt_of_lt_of_le (numOf_lt _ _) (Nat.le_trans (Nat.pow_le_pow_right (by decide) (show j ≤ 12 by omega)) (by decide))
          have htr : x.tr.toNat < tn := by have := HTN.out; omega
          have hxt : x.tr < (tn : Int) := by have := HTN.out; omega
          have hx0 : 0 ≤ x.tr := hxo.1
          clear hx hxo
          have e3 := hb.cell 3 (v := .slice (some ⟨b1, o1, none⟩) rn rc) rfl
          clear hb
          obtain ⟨b2, o2, e2, _, hd⟩ := HI.out.at htr
          rw [ofF_at _ htr] at hd
          subst e2
          clear hd
          obtain ⟨W9, hW9⟩ : ∃ V, wr.alloc (.cells #[.int .i64 x.tr, .int .i64 x.paid.lo, .int .i64 x.paid.hi] 104) = V := ⟨_, rfl⟩
          have hb9 : Below wr.heap.size wr W9 := by rw [← hW9]; exact (Below.refl _ _).alloc (Nat.le_refl _) _
          have HX9 : Hid (BoxIs wr.heap.size #[.int .i64 x.tr, .int .i64 x.paid.lo, .int .i64 x.paid.hi] W9) := by show BoxIs _ _ _; rw [← hW9]; exact BoxIs.start _ _ _
          have HI9 := hid (HI.out.below hb9); have HO9 := hid (HOO.out.below hb9); have HB9 := hid (HBB.out.step hb9)
          clear hb9
          go_upto_region 11 with fail
          clear hW9 e3 hc0 hc1 hc2
          cases hc : inB (F.1 x.tr.toNat) x.paid.lo x.paid.hi
          · have HC := hid hc
            have HR : Hid (rightI F.1 p.reps j = false) := hid (by rw [HFX.out, rightB, hc])
            clear hc
            refine wp_region_held_drew (S := fun V => V = W9.drew) (by kernel_rfl) (rfl) (fun hS => ?_)
            simp only [List.size_toArray, List.length_cons, List.length_nil, Nat.reduceAdd, Array.replicate_succ, Array.replicate_zero, List.push_toArray, List.nil_append, List.cons_append]
            refine tkH (i := 0) (v := ?_) (fun V hV => ?_) ?_
            rotate_left
            · go_simp
              try with_reducible rfl
            try simp only [Act.put, List.getElem_toArray, List.getElem_cons_zero, List.setIfInBounds_toArray, List.set_cons_zero, List.set_cons_succ]
            refine tkH (i := 1) (v := ?_) (fun V hV => ?_) ?_
            rotate_left
            · go_simp
              try with_reducible rfl
            try simp only [Act.put, List.getElem_toArray, List.getElem_cons_zero, List.getElem_cons_succ, List.setIfInBounds_toArray, List.set_cons_zero, List.set_cons_succ]
            refine tkH (i := 2) (v := ?_) (fun V hV => ?_) ?_
            rotate_left
            · obtain rfl := hV; have f0 := (HX9.out.2 0 (.int .i64 x.tr) rfl).1; go_simp
              try with_reducible rfl
            try simp only [Act.put, List.getElem_toArray, List.getElem_cons_zero, List.getElem_cons_succ, List.setIfInBounds_toArray, List.set_cons_zero, List.set_cons_succ]
            refine tkH (i := 3) (v := ?_) (fun V hV => ?_) ?_
            rotate_left
            · go_simp
              try with_reducible rfl
            try simp only [Act.put, List.getElem_toArray, List.getElem_cons_zero, List.getElem_cons_succ, List.setIfInBounds_toArray, List.set_cons_zero, List.set_cons_succ]
            refine tkH (i := 4) (v := ?_) (fun V hV => ?_) ?_
            rotate_left
            · obtain rfl := hV; obtain ⟨b3, o3, e3, _, hd⟩ := HI9.out.at htr; cases e3; rw [ofF_at _ htr] at hd; go_simp
              try with_reducible rfl
            try simp only [Act.put, List.getElem_toArray, List.getElem_cons_zero, List.getElem_cons_succ, List.setIfInBounds_toArray, List.set_cons_zero, List.set_cons_succ]
            refine tkH (i := 5) (v := ?_) (fun V hV => ?_) ?_
            rotate_left
            · go_simp
              try with_reducible rfl
            try simp only [Act.put, List.getElem_toArray, List.getElem_cons_zero, List.getElem_cons_succ, List.setIfInBounds_toArray, List.set_cons_zero, List.set_cons_succ]
            refine tkH (i := 6) (v := ?_) (fun V hV => ?_) ?_
            rotate_left
            · go_simp
              try with_reducible rfl
            try simp only [Act.put, List.getElem_toArray, List.getElem_cons_zero, List.getElem_cons_succ, List.setIfInBounds_toArray, List.set_cons_zero, List.set_cons_succ]
            refine tkH (i := 7) (v := ?_) (fun V hV => ?_) ?_
            rotate_left
            · obtain rfl := hV; have f0 := (HX9.out.2 1 (.int .i64 x.paid.lo) rfl).1; go_simp
              try with_reducible rfl
            try simp only [Act.put, List.getElem_toArray, List.getElem_cons_zero, List.getElem_cons_succ, List.setIfInBounds_toArray, List.set_cons_zero, List.set_cons_succ]
            refine tkH (i := 8) (v := ?_) (fun V hV => ?_) ?_
            rotate_left
            · go_simp
              try with_reducible rfl
            try simp only [Act.put, List.getElem_toArray, List.getElem_cons_zero, List.getElem_cons_succ, List.setIfInBounds_toArray, List.set_cons_zero, List.set_cons_succ]
            refine tkH (i := 9) (v := ?_) (fun V hV => ?_) ?_
            rotate_left
            · go_simp
              try with_reducible rfl
            try simp only [Act.put, List.getElem_toArray, List.getElem_cons_zero, List.getElem_cons_succ, List.setIfInBounds_toArray, List.set_cons_zero, List.set_cons_succ]
            refine tkH (i := 10) (v := ?_) (fun V hV => ?_) ?_
            rotate_left
            · obtain rfl := hV; have f0 := (HX9.out.2 2 (.int .i64 x.paid.hi) rfl).1; go_simp
              try with_reducible rfl
            try simp only [Act.put, List.getElem_toArray, List.getElem_cons_zero, List.getElem_cons_succ, List.setIfInBounds_toArray, List.set_cons_zero, List.set_cons_succ]
            refine wpAnyH_ready (rs := [11]) (by kernel_rfl) (by simp) ?_
            refine AllReadyH.cons (o := _) rfl (fun K hK => ?_) AllReadyH.nil
            go_simp
            (with_reducible refine (in_any (F.1 x.tr.toNat) x.paid.lo x.paid.hi _).mono ?_)
            rintro e w11 ⟨rfl, rfl⟩
            rw [HC.out]
            refine hK.out _ _ (rfl) (fun hS => ?_)
            clear hK K
            try simp only [List.setIfInBounds_toArray, List.set_cons_zero, List.set_cons_succ]
            refine wpAnyH_done (by kernel_rfl) ?_ _
            clear hS
            go_wp2_with fail
            go_roundw
            case rel => exact ⟨j + 1, by omega, by go_num, by rw [numOf_no HR.out], HI9.out, HO9.out, HB9.out.drew⟩
            case measure => simp [intOf]; omega
          · have HC := hid hc
            have HR : Hid (rightI F.1 p.reps j = true) := hid (by rw [HFX.out, rightB, hc])
            clear hc
            refine wp_region_held_drew (S := fun V => V = W9.drew) (by kernel_rfl) (rfl) (fun hS => ?_)
            simp only [List.size_toArray, List.length_cons, List.length_nil, Nat.reduceAdd, Array.replicate_succ, Array.replicate_zero, List.push_toArray, List.nil_append, List.cons_append]
            refine tkH (i := 0) (v := ?_) (fun V hV => ?_) ?_
            rotate_left
            · go_simp
              try with_reducible rfl
            try simp only [Act.put, List.getElem_toArray, List.getElem_cons_zero, List.setIfInBounds_toArray, List.set_cons_zero, List.set_cons_succ]
            refine tkH (i := 1) (v := ?_) (fun V hV => ?_) ?_
            rotate_left
            · go_simp
              try with_reducible rfl
            try simp only [Act.put, List.getElem_toArray, List.getElem_cons_zero, List.getElem_cons_succ, List.setIfInBounds_toArray, List.set_cons_zero, List.set_cons_succ]
            refine tkH (i := 2) (v := ?_) (fun V hV => ?_) ?_
            rotate_left
            · obtain rfl := hV; have f0 := (HX9.out.2 0 (.int .i64 x.tr) rfl).1; go_simp
              try with_reducible rfl
            try simp only [Act.put, List.getElem_toArray, List.getElem_cons_zero, List.getElem_cons_succ, List.setIfInBounds_toArray, List.set_cons_zero, List.set_cons_succ]
            refine tkH (i := 3) (v := ?_) (fun V hV => ?_) ?_
            rotate_left
            · go_simp
              try with_reducible rfl
            try simp only [Act.put, List.getElem_toArray, List.getElem_cons_zero, List.getElem_cons_succ, List.setIfInBounds_toArray, List.set_cons_zero, List.set_cons_succ]
            refine tkH (i := 4) (v := ?_) (fun V hV => ?_) ?_
            rotate_left
            · obtain rfl := hV; obtain ⟨b3, o3, e3, _, hd⟩ := HI9.out.at htr; cases e3; rw [ofF_at _ htr] at hd; go_simp
              try with_reducible rfl
            try simp only [Act.put, List.getElem_toArray, List.getElem_cons_zero, List.getElem_cons_succ, List.setIfInBounds_toArray, List.set_cons_zero, List.set_cons_succ]
            refine tkH (i := 5) (v := ?_) (fun V hV => ?_) ?_
            rotate_left
            · go_simp
              try with_reducible rfl
            try simp only [Act.put, List.getElem_toArray, List.getElem_cons_zero, List.getElem_cons_succ, List.setIfInBounds_toArray, List.set_cons_zero, List.set_cons_succ]
            refine tkH (i := 6) (v := ?_) (fun V hV => ?_) ?_
            rotate_left
            · go_simp
              try with_reducible rfl
            try simp only [Act.put, List.getElem_toArray, List.getElem_cons_zero, List.getElem_cons_succ, List.setIfInBounds_toArray, List.set_cons_zero, List.set_cons_succ]
            refine tkH (i := 7) (v := ?_) (fun V hV => ?_) ?_
            rotate_left
            · obtain rfl := hV; have f0 := (HX9.out.2 1 (.int .i64 x.paid.lo) rfl).1; go_simp
              try with_reducible rfl
            try simp only [Act.put, List.getElem_toArray, List.getElem_cons_zero, List.getElem_cons_succ, List.setIfInBounds_toArray, List.set_cons_zero, List.set_cons_succ]
            refine tkH (i := 8) (v := ?_) (fun V hV => ?_) ?_
            rotate_left
            · go_simp
              try with_reducible rfl
            try simp only [Act.put, List.getElem_toArray, List.getElem_cons_zero, List.getElem_cons_succ, List.setIfInBounds_toArray, List.set_cons_zero, List.set_cons_succ]
            refine tkH (i := 9) (v := ?_) (fun V hV => ?_) ?_
            rotate_left
            · go_simp
              try with_reducible rfl
            try simp only [Act.put, List.getElem_toArray, List.getElem_cons_zero, List.getElem_cons_succ, List.setIfInBounds_toArray, List.set_cons_zero, List.set_cons_succ]
            refine tkH (i := 10) (v := ?_) (fun V hV => ?_) ?_
            rotate_left
            · obtain rfl := hV; have f0 := (HX9.out.2 2 (.int .i64 x.paid.hi) rfl).1; go_simp
              try with_reducible rfl
            try simp only [Act.put, List.getElem_toArray, List.getElem_cons_zero, List.getElem_cons_succ, List.setIfInBounds_toArray, List.set_cons_zero, List.set_cons_succ]
            refine wpAnyH_ready (rs := [11]) (by kernel_rfl) (by simp) ?_
            refine AllReadyH.cons (o := _) rfl (fun K hK => ?_) AllReadyH.nil
            go_simp
            (with_reducible refine (in_any (F.1 x.tr.toNat) x.paid.lo x.paid.hi _).mono ?_)
            rintro e w11 ⟨rfl, rfl⟩
            rw [HC.out]
            refine hK.out _ _ (rfl) (fun hS => ?_)
            clear hK K
            try simp only [List.setIfInBounds_toArray, List.set_cons_zero, List.set_cons_succ]
            refine wpAnyH_done (by kernel_rfl) ?_ _
            clear hS
            obtain ⟨N, hN, hN1, hN2, hN3⟩ := pow_facts (show j ≤ 9 by omega)
            have HNN := hid hN
            clear hN
            have hor := i64_or_nat (numOf (rightI F.1 p.reps) j) N hz (Nat.lt_of_le_of_lt hN2 (by decide))
            have hcv : IntKind.u64.wrap (j : Int) = (j : Int) := by rw [IntKind.wrap_u64]; omega
            have HON : Hid (numOf (rightI F.1 p.reps) (j + 1) = numOf (rightI F.1 p.reps) j ||| N) := by show _ = _; rw [numOf_or HR.out, HNN.out]
            go_wp2_with fail
            go_roundw
            case rel => exact ⟨j + 1, by omega, by go_num, by rw [HON.out], HI9.out, HO9.out, HB9.out.drew⟩
            case measure => simp [intOf]; omega
        · have hjn : j = rn := by omega
          have HR : Hid (numOf (rightI F.1 p.reps) j = rightN p L) := by show _ = _; rw [hjn, HRD.out, HRN.out]
          have hal' := HAL.out
          have e3 := hb.cell 3 (v := .slice rp rn rc) rfl
          have hown := HOO.out
          clear hjn hb
          go_wp2_with (at_builtin; refine append_int (by rfl) _ _ (by rfl) (w.heap.size + 1) _ (castL (allTo p k)) _ hown (by rfl) (by rfl) hal' HBB.out.size ?_; intro v' w' ho' hb'; have HB' := HBB.out.step' hb')
          go_roundw
          case rel => exact ⟨k + 1, by omega, by go_num, by rw [HS.out, ← HR.out]; exact ho', HB'⟩
          case measure => simp [intOf]; omega
    · have hkM : k = M := by omega
      have HF : Hid (castL (allTo p k) = castL (allP p)) := by show _ = _; rw [hkM, HA.out]
      clear hkM
      go_wp2_with fail
      go_ret
      exact ⟨_, rfl, HF.out ▸ HO1.out.mono (Nat.le_succ _), HB1.out.below⟩
end Go.Proofs.Ytaioobhblfnlaaa
