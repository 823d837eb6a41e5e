/- Package hailstoneref10: the cheapest set, the truths, the bounds of treaties (Cheapest, Truths, Bounds): the walks. Condition: a sound programme; losses in their bounds. -/
import Derived.Test.YtaioobhblfnlaaaP19
import Derived.Maps.AppendAt
namespace Go.Proofs.Ytaioobhblfnlaaa
open Go.RowKit

def isC (p : Prg) (k : Nat) : Bool := setB p.ts (bitsL (k : Nat)) && decide ((keptR p (bitB (k : Nat))).hi ≤ p.reserve)
def prC (p : Prg) (k : Nat) : Int := priceG (bitB (k : Nat)) 0 p.ts
def bestO : Option Nat → Nat
  | none => 0
  | some b => b
theorem bits_len (m : Int) : (bitsL m).length ≤ 12 := by
  have h : ∀ k, (bitsTo m k).length ≤ k := fun k => by
    induction k with
    | zero => simp [bitsTo]
    | succ k ih => rw [bitsTo_succ, List.length_append]; split <;> simp <;> omega
  exact h 12
theorem field55 (a b : Int) (V : World) : (Instr.field 55 (.agg #[.int .i64 a, .int .i64 b]) 1).run Try.prog V = .ok (.int .i64 b) V := by kernel_rfl

set_option maxRecDepth 100000 in
set_option maxHeartbeats 16000000 in
theorem cheapestR_any (p : Prg) (lp : Option Addr) (ln lc : Nat) (tp : Option Addr) (tn tc : Nat) (rp : Option Addr) (rn rc : Nat) (w : World) (hp : PrgAt w p lp ln tp tn rp rn) (ok : OkP p) :
    Calls Try.prog 41 #[.agg #[.slice lp ln lc, .int .i64 p.reserve, .slice tp tn tc, .slice rp rn rc]] w fun e w' => e = .returned (.tuple #[.int .i64 (bestO (cheapR p) : Nat), .bool (cheapR p).isSome]) ∧ Below w.heap.size w w' := by
  have htn5 : tn ≤ 5 := by rw [hp.t.1]; exact ok.m5
  have HTN := hid hp.t.1
  have HOK := hid ok
  have HEV := hid (fun W => every_any p lp ln lc tp tn tc rp rn rc W (by omega))
  have HBT := hid (fun (k : Nat) W (hk : k < 4096) => bits_any (k : Int) W (by omega) (by omega))
  have HST := hid (fun (k : Nat) q m c W (hW : Below w.heap.size w W) (hl : IntsAt W q m (bitsL (k : Nat))) => isSet_any p lp ln lc tp tn tc rp rn rc q m c (bitsL (k : Nat)) W (hp.below hW) hl htn5 (by have := hl.1; have := bits_len (k : Nat); omega))
  have HKP := hid (fun (k : Nat) W (hk : k < 4096) (hW : Below w.heap.size w W) => keptR_any p lp ln lc tp tn tc rp rn rc (k : Int) W (hp.below hW) ok (by omega) (by omega))
  have HPR := hid (fun (k : Nat) W (hk : k < 4096) (hW : Below w.heap.size w W) => price_any p lp ln lc tp tn tc rp rn rc (k : Int) W (hp.below hW) htn5 (by omega) (by omega) ok.prices)
  obtain ⟨M, hM, hM1, hM2, hM3⟩ := pow_facts (show tn ≤ 9 by omega)
  have HE : Hid (everyN tn = (M : Int) - 1) := hid (by rw [everyN, hM]; omega)
  have hM5 : M ≤ 512 := by have : 2 ^ tn ≤ 2 ^ 9 := Nat.pow_le_pow_right (by decide) (by omega); omega
  have HCR : Hid (cheapR p = chG (isC p) (prC p) 0 (M - 0) none) := hid (by rw [Nat.sub_zero, ← hM, hp.t.1]; rfl)
  have HMT : Hid (M = 2 ^ p.ts.length) := hid (by rw [← hp.t.1, hM])
  rw [HE.out] at HEV
  clear hp ok hM
  have H0 : Hid (Boxed1 w #[.slice lp ln lc, .int .i64 p.reserve, .slice tp tn tc, .slice rp rn rc] 26 (w.alloc (.cells #[.slice lp ln lc, .int .i64 p.reserve, .slice tp tn tc, .slice rp rn rc] 26))) := hid (Boxed1.start _ _ _)
  go_enter Try.func41, Try.ntmps41
  go_wp2_with fail
  go_loopw [4, 5, 6] (fun a b x wr => ∃ (k : Nat) (s : Option Nat), k ≤ M ∧ x = .int .i64 k ∧ a = .int .i64 (bestO s : Nat) ∧ b = .bool s.isSome ∧ (∀ y, s = some y → y < k) ∧ Boxed1 w #[.slice lp ln lc, .int .i64 p.reserve, .slice tp tn tc, .slice rp rn rc] 26 wr ∧ chG (isC p) (prC p) k (M - k) s = cheapR p) (fun _ _ x _ => M + 1 - (intOf x).toNat)
  case atStart => exact ⟨0, none, by omega, rfl, rfl, rfl, (fun y hy => by cases hy), H0.out, HCR.out.symm⟩
  case round =>
    clear H0 HCR
    obtain ⟨k, s, hk, rfl, rfl, rfl, hs, hb, hr⟩ := hrel
    have HS := hid hs; have HB := hid hb; have HR := hid hr
    clear hs hr hb
    have e0 := HB.out.cell 0 (v := .slice lp ln lc) rfl; have e1 := HB.out.cell 1 (v := .int .i64 p.reserve) rfl; have e2 := HB.out.cell 2 (v := .slice tp tn tc) rfl; have e3 := HB.out.cell 3 (v := .slice rp rn rc) rfl
    go_wp2_with fail
    (with_reducible refine (HEV.out _).mono ?_)
    rintro e w1 ⟨rfl, hb⟩
    have HB1 := hid (HB.out.step hb)
    clear e0 e1 e2 e3 hb HB
    by_cases hlt : k < M
    · skip
      have hle : (k : Int) ≤ (M : Int) - 1 := by omega
      have hk4 : k < 4096 := by omega
      have hw1 : IntKind.i64.wrap ((k : Int) + 1) = (k : Int) + 1 := IntWalk.i64_in _ (by omega)
      have HGO := hid (chG_go (isC p) (prC p) k M s hlt)
      rw [HR.out] at HGO
      go_upto_region 5 with fail
      refine wp_region_held_drew (S := fun V => Boxed1 w #[.slice lp ln lc, .int .i64 p.reserve, .slice tp tn tc, .slice rp rn rc] 26 V) (by kernel_rfl) (HB1.out.drew) (fun hS => ?_)
      simp only [List.size_toArray, List.length_cons, List.length_nil, Nat.reduceAdd, Array.replicate_succ, Array.replicate_zero, List.push_toArray, List.nil_append, List.cons_append]
      refine tkH (i := 0) (v := ?_) (fun V hV => ?_) ?_
      rotate_left
      · have e0 := hV.cell 0 (v := .slice lp ln lc) rfl; have e1 := hV.cell 1 (v := .int .i64 p.reserve) rfl; have e2 := hV.cell 2 (v := .slice tp tn tc) rfl; have e3 := hV.cell 3 (v := .slice rp rn rc) rfl; go_simp
        try with_reducible rfl
      try simp only [Act.put, List.getElem_toArray, List.getElem_cons_zero, List.setIfInBounds_toArray, List.set_cons_zero, List.set_cons_succ]
      refine tkH (i := 1) (v := ?_) (fun V hV => ?_) ?_
      rotate_left
      · go_simp
        try with_reducible rfl
      try simp only [Act.put, List.getElem_toArray, List.getElem_cons_zero, List.getElem_cons_succ, List.setIfInBounds_toArray, List.set_cons_zero, List.set_cons_succ]
      refine wpAnyH_ready (rs := [2]) (by kernel_rfl) (by simp) ?_
      refine AllReadyH.cons (o := _) rfl (fun K hK => ?_) AllReadyH.nil
      go_simp
      (with_reducible refine (HBT.out k _ hk4).mono ?_)
      rintro e w2 ⟨v2, rfl, ho2, hb⟩
      obtain ⟨q2, c2, rfl, hi2⟩ := ho2.slice
      clear ho2
      obtain ⟨N2, hN2⟩ : ∃ n, (bitsL (k : Nat)).length = n := ⟨_, rfl⟩
      rw [hN2] at hi2 ⊢
      have HI2 := hid hi2
      clear hi2 hN2
      refine hK.out _ _ (hS.step hb) (fun hS => ?_)
      clear hK K
      try simp only [List.setIfInBounds_toArray, List.set_cons_zero, List.set_cons_succ]
      refine wpAnyH_ready (rs := [3]) (by kernel_rfl) (by simp) ?_
      refine AllReadyH.cons (o := _) rfl (fun K hK => ?_) AllReadyH.nil
      go_simp
      (with_reducible refine (HST.out k q2 N2 c2 _ hS.below HI2.out).mono ?_)
      rintro e w3 ⟨rfl, hb⟩
      refine hK.out _ _ (hS.step hb) (fun hS => ?_)
      clear hK K
      try simp only [List.setIfInBounds_toArray, List.set_cons_zero, List.set_cons_succ]
      refine tkH (i := 4) (v := ?_) (fun V hV => ?_) ?_
      rotate_left
      · go_simp
        try with_reducible rfl
      try simp only [Act.put, List.getElem_toArray, List.getElem_cons_zero, List.getElem_cons_succ, List.setIfInBounds_toArray, List.set_cons_zero, List.set_cons_succ]
      refine tkH (i := 5) (v := ?_) (fun V hV => ?_) ?_
      rotate_left
      · go_simp
        try with_reducible rfl
      try simp only [Act.put, List.getElem_toArray, List.getElem_cons_zero, List.getElem_cons_succ, List.setIfInBounds_toArray, List.set_cons_zero, List.set_cons_succ]
      refine tkH (i := 6) (v := ?_) (fun V hV => ?_) ?_
      rotate_left
      · go_simp
        try with_reducible rfl
      try simp only [Act.put, List.getElem_toArray, List.getElem_cons_zero, List.getElem_cons_succ, List.setIfInBounds_toArray, List.set_cons_zero, List.set_cons_succ]
      refine tkH (i := 7) (v := ?_) (fun V hV => ?_) ?_
      rotate_left
      · go_simp
        try with_reducible rfl
      try simp only [Act.put, List.getElem_toArray, List.getElem_cons_zero, List.getElem_cons_succ, List.setIfInBounds_toArray, List.set_cons_zero, List.set_cons_succ]
      refine tkH (i := 8) (v := ?_) (fun V hV => ?_) ?_
      rotate_left
      · go_simp
        try with_reducible rfl
      try simp only [Act.put, List.getElem_toArray, List.getElem_cons_zero, List.getElem_cons_succ, List.setIfInBounds_toArray, List.set_cons_zero, List.set_cons_succ]
      refine wpAnyH_done (by kernel_rfl) ?_ _
      have HB3 := hid hS
      clear hS
      cases hsb : setB p.ts (bitsL (k : Nat))
      · skip
        go_upto_region 6 with fail
        refine wp_region_held_drew (S := fun V => Boxed1 w #[.slice lp ln lc, .int .i64 p.reserve, .slice tp tn tc, .slice rp rn rc] 26 V) (by kernel_rfl) (HB3.out.drew) (fun hS => ?_)
        simp only [List.size_toArray, List.length_cons, List.length_nil, Nat.reduceAdd, Array.replicate_succ, Array.replicate_zero, List.push_toArray, List.nil_append, List.cons_append]
        refine tkH (i := 0) (v := ?_) (fun V hV => ?_) ?_
        rotate_left
        · go_simp
          try with_reducible rfl
        try simp only [Act.put, List.getElem_toArray, List.getElem_cons_zero, List.setIfInBounds_toArray, List.set_cons_zero, List.set_cons_succ]
        refine tkH (i := 1) (v := ?_) (fun V hV => ?_) ?_
        rotate_left
        · go_simp
          try with_reducible rfl
        try simp only [Act.put, List.getElem_toArray, List.getElem_cons_zero, List.getElem_cons_succ, List.setIfInBounds_toArray, List.set_cons_zero, List.set_cons_succ]
        refine tkH (i := 2) (v := ?_) (fun V hV => ?_) ?_
        rotate_left
        · go_simp
          try with_reducible rfl
        try simp only [Act.put, List.getElem_toArray, List.getElem_cons_zero, List.getElem_cons_succ, List.setIfInBounds_toArray, List.set_cons_zero, List.set_cons_succ]
        refine tkU (i := 3) ?_
        try simp only [Act.put, List.getElem_toArray, List.getElem_cons_zero, List.getElem_cons_succ, List.setIfInBounds_toArray, List.set_cons_zero, List.set_cons_succ]
        refine tkU (i := 4) ?_
        try simp only [Act.put, List.getElem_toArray, List.getElem_cons_zero, List.getElem_cons_succ, List.setIfInBounds_toArray, List.set_cons_zero, List.set_cons_succ]
        refine tkU (i := 5) ?_
        try simp only [Act.put, List.getElem_toArray, List.getElem_cons_zero, List.getElem_cons_succ, List.setIfInBounds_toArray, List.set_cons_zero, List.set_cons_succ]
        refine tkU (i := 6) ?_
        try simp only [Act.put, List.getElem_toArray, List.getElem_cons_zero, List.getElem_cons_succ, List.setIfInBounds_toArray, List.set_cons_zero, List.set_cons_succ]
        refine tkU (i := 7) ?_
        try simp only [Act.put, List.getElem_toArray, List.getElem_cons_zero, List.getElem_cons_succ, List.setIfInBounds_toArray, List.set_cons_zero, List.set_cons_succ]
        refine tkU (i := 8) ?_
        try simp only [Act.put, List.getElem_toArray, List.getElem_cons_zero, List.getElem_cons_succ, List.setIfInBounds_toArray, List.set_cons_zero, List.set_cons_succ]
        refine tkU (i := 9) ?_
        try simp only [Act.put, List.getElem_toArray, List.getElem_cons_zero, List.getElem_cons_succ, List.setIfInBounds_toArray, List.set_cons_zero, List.set_cons_succ]
        refine tkH (i := 10) (v := ?_) (fun V hV => ?_) ?_
        rotate_left
        · go_simp
          try with_reducible rfl
        try simp only [Act.put, List.getElem_toArray, List.getElem_cons_zero, List.getElem_cons_succ, List.setIfInBounds_toArray, List.set_cons_zero, List.set_cons_succ]
        refine wpAnyH_done (by kernel_rfl) ?_ _
        have HB6 := hid hS
        clear hS
        have HNX : Hid (chG (isC p) (prC p) (k + 1) (M - (k + 1)) s = cheapR p) := hid (by have h := HGO.out; rw [if_neg (by rw [isC, hsb]; simp)] at h; exact h.symm)
        go_wp2_with fail
        go_roundw
        case rel => exact ⟨k + 1, s, by omega, by go_num, rfl, rfl, (fun y hy => by have := HS.out y hy; omega), HB6.out, HNX.out⟩
        case measure => simp [intOf]; omega
      · skip
        obtain ⟨kl, hkl⟩ : ∃ z, (keptR p (bitB (k : Nat))).lo = z := ⟨_, rfl⟩
        obtain ⟨kh, hkh⟩ : ∃ z, (keptR p (bitB (k : Nat))).hi = z := ⟨_, rfl⟩
        have HKL := hid hkl; have HKH := hid hkh
        have HIS : Hid (isC p k = decide (kh ≤ p.reserve)) := hid (by rw [isC, hsb, hkh]; rfl)
        clear hsb hkl hkh
        go_upto_region 6 with fail
        refine wp_region_held_drew (S := fun V => Boxed1 w #[.slice lp ln lc, .int .i64 p.reserve, .slice tp tn tc, .slice rp rn rc] 26 V) (by kernel_rfl) (HB3.out.drew) (fun hS => ?_)
        simp only [List.size_toArray, List.length_cons, List.length_nil, Nat.reduceAdd, Array.replicate_succ, Array.replicate_zero, List.push_toArray, List.nil_append, List.cons_append]
        refine tkH (i := 0) (v := ?_) (fun V hV => ?_) ?_
        rotate_left
        · go_simp
          try with_reducible rfl
        try simp only [Act.put, List.getElem_toArray, List.getElem_cons_zero, List.setIfInBounds_toArray, List.set_cons_zero, List.set_cons_succ]
        refine tkH (i := 1) (v := ?_) (fun V hV => ?_) ?_
        rotate_left
        · go_simp
          try with_reducible rfl
        try simp only [Act.put, List.getElem_toArray, List.getElem_cons_zero, List.getElem_cons_succ, List.setIfInBounds_toArray, List.set_cons_zero, List.set_cons_succ]
        refine tkH (i := 2) (v := ?_) (fun V hV => ?_) ?_
        rotate_left
        · go_simp
          try with_reducible rfl
        try simp only [Act.put, List.getElem_toArray, List.getElem_cons_zero, List.getElem_cons_succ, List.setIfInBounds_toArray, List.set_cons_zero, List.set_cons_succ]
        refine tkH (i := 3) (v := ?_) (fun V hV => ?_) ?_
        rotate_left
        · have e0 := hV.cell 0 (v := .slice lp ln lc) rfl; have e1 := hV.cell 1 (v := .int .i64 p.reserve) rfl; have e2 := hV.cell 2 (v := .slice tp tn tc) rfl; have e3 := hV.cell 3 (v := .slice rp rn rc) rfl; go_simp
          try with_reducible rfl
        try simp only [Act.put, List.getElem_toArray, List.getElem_cons_zero, List.getElem_cons_succ, List.setIfInBounds_toArray, List.set_cons_zero, List.set_cons_succ]
        refine tkH (i := 4) (v := ?_) (fun V hV => ?_) ?_
        rotate_left
        · go_simp
          try with_reducible rfl
        try simp only [Act.put, List.getElem_toArray, List.getElem_cons_zero, List.getElem_cons_succ, List.setIfInBounds_toArray, List.set_cons_zero, List.set_cons_succ]
        refine tkH (i := 7) (v := ?_) (fun V hV => ?_) ?_
        rotate_left
        · go_simp
          try with_reducible rfl
        try simp only [Act.put, List.getElem_toArray, List.getElem_cons_zero, List.getElem_cons_succ, List.setIfInBounds_toArray, List.set_cons_zero, List.set_cons_succ]
        refine tkH (i := 8) (v := ?_) (fun V hV => ?_) ?_
        rotate_left
        · have e1 := hV.cell 1 (v := .int .i64 p.reserve) rfl; go_simp
          try with_reducible rfl
        try simp only [Act.put, List.getElem_toArray, List.getElem_cons_zero, List.getElem_cons_succ, List.setIfInBounds_toArray, List.set_cons_zero, List.set_cons_succ]
        refine wpAnyH_ready (rs := [5]) (by kernel_rfl) (by simp) ?_
        refine AllReadyH.cons (o := _) rfl (fun K hK => ?_) AllReadyH.nil
        go_simp
        (with_reducible refine (HKP.out k _ hk4 hS.below).mono ?_)
        rintro e w6 ⟨rfl, hb⟩
        rw [HKL.out, HKH.out]
        refine hK.out _ _ (hS.step hb) (fun hS => ?_)
        clear hK K
        try simp only [List.setIfInBounds_toArray, List.set_cons_zero, List.set_cons_succ]
        refine tkH (i := 6) (v := ?_) (fun V hV => ?_) ?_
        rotate_left
        · have q1 := field55 kl kh V; go_simp
          try with_reducible rfl
        try simp only [Act.put, List.getElem_toArray, List.getElem_cons_zero, List.getElem_cons_succ, List.setIfInBounds_toArray, List.set_cons_zero, List.set_cons_succ]
        refine tkH (i := 9) (v := ?_) (fun V hV => ?_) ?_
        rotate_left
        · go_simp
          try with_reducible rfl
        try simp only [Act.put, List.getElem_toArray, List.getElem_cons_zero, List.getElem_cons_succ, List.setIfInBounds_toArray, List.set_cons_zero, List.set_cons_succ]
        refine tkH (i := 10) (v := ?_) (fun V hV => ?_) ?_
        rotate_left
        · go_simp
          try with_reducible rfl
        try simp only [Act.put, List.getElem_toArray, List.getElem_cons_zero, List.getElem_cons_succ, List.setIfInBounds_toArray, List.set_cons_zero, List.set_cons_succ]
        refine wpAnyH_done (by kernel_rfl) ?_ _
        have HB6 := hid hS
        clear hS
        by_cases hkr : kh ≤ p.reserve
        · skip
          have HI1 : Hid (isC p k = true) := hid (by rw [HIS.out]; simp [hkr])
          obtain ⟨bb, hbb⟩ : ∃ z, bestO s = z := ⟨_, rfl⟩
          obtain ⟨fb, hfb⟩ : ∃ z, s.isSome = z := ⟨_, rfl⟩
          rw [hbb, hfb]
          have hb4 : bb < 4096 := by cases s with | none => (have : (0 : Nat) = bb := hbb); omega | some b => (have : b = bb := hbb); have := HS.out b rfl; omega
          have HBB := hid hbb; have HFB := hid hfb
          clear hbb hfb
          go_upto_region 7 with fail
          refine wp_region_held_drew (S := fun V => Boxed1 w #[.slice lp ln lc, .int .i64 p.reserve, .slice tp tn tc, .slice rp rn rc] 26 V) (by kernel_rfl) (HB6.out.drew) (fun hS => ?_)
          simp only [List.size_toArray, List.length_cons, List.length_nil, Nat.reduceAdd, Array.replicate_succ, Array.replicate_zero, List.push_toArray, List.nil_append, List.cons_append]
          refine tkH (i := 0) (v := ?_) (fun V hV => ?_) ?_
          rotate_left
          · have e0 := hV.cell 0 (v := .slice lp ln lc) rfl; have e1 := hV.cell 1 (v := .int .i64 p.reserve) rfl; have e2 := hV.cell 2 (v := .slice tp tn tc) rfl; have e3 := hV.cell 3 (v := .slice rp rn rc) rfl; go_simp
            try with_reducible rfl
          try simp only [Act.put, List.getElem_toArray, List.getElem_cons_zero, List.setIfInBounds_toArray, List.set_cons_zero, List.set_cons_succ]
          refine tkH (i := 1) (v := ?_) (fun V hV => ?_) ?_
          rotate_left
          · go_simp
            try with_reducible rfl
          try simp only [Act.put, List.getElem_toArray, List.getElem_cons_zero, List.getElem_cons_succ, List.setIfInBounds_toArray, List.set_cons_zero, List.set_cons_succ]
          refine tkH (i := 3) (v := ?_) (fun V hV => ?_) ?_
          rotate_left
          · have e0 := hV.cell 0 (v := .slice lp ln lc) rfl; have e1 := hV.cell 1 (v := .int .i64 p.reserve) rfl; have e2 := hV.cell 2 (v := .slice tp tn tc) rfl; have e3 := hV.cell 3 (v := .slice rp rn rc) rfl; go_simp
            try with_reducible rfl
          try simp only [Act.put, List.getElem_toArray, List.getElem_cons_zero, List.getElem_cons_succ, List.setIfInBounds_toArray, List.set_cons_zero, List.set_cons_succ]
          refine tkH (i := 4) (v := ?_) (fun V hV => ?_) ?_
          rotate_left
          · go_simp
            try with_reducible rfl
          try simp only [Act.put, List.getElem_toArray, List.getElem_cons_zero, List.getElem_cons_succ, List.setIfInBounds_toArray, List.set_cons_zero, List.set_cons_succ]
          refine wpAnyH_ready (rs := [2]) (by kernel_rfl) (by simp) ?_
          refine AllReadyH.cons (o := _) rfl (fun K hK => ?_) AllReadyH.nil
          go_simp
          (with_reducible refine (HPR.out k _ hk4 hS.below).mono ?_)
          rintro e w7 ⟨rfl, hb⟩
          obtain ⟨pk, hpk⟩ : ∃ z, priceG (bitB (k : Nat)) 0 p.ts = z := ⟨_, rfl⟩
          rw [hpk]
          have HPK : Hid (prC p k = pk) := hid hpk
          clear hpk
          refine hK.out _ _ (hS.step hb) (fun hS => ?_)
          clear hK K
          try simp only [List.setIfInBounds_toArray, List.set_cons_zero, List.set_cons_succ]
          refine wpAnyH_ready (rs := [5]) (by kernel_rfl) (by simp) ?_
          refine AllReadyH.cons (o := _) rfl (fun K hK => ?_) AllReadyH.nil
          go_simp
          (with_reducible refine (HPR.out bb _ hb4 hS.below).mono ?_)
          rintro e w8 ⟨rfl, hb⟩
          obtain ⟨pb, hpb⟩ : ∃ z, priceG (bitB (bb : Nat)) 0 p.ts = z := ⟨_, rfl⟩
          rw [hpb]
          have HPB : Hid (prC p bb = pb) := hid hpb
          clear hpb
          refine hK.out _ _ (hS.step hb) (fun hS => ?_)
          clear hK K
          try simp only [List.setIfInBounds_toArray, List.set_cons_zero, List.set_cons_succ]
          refine tkH (i := 6) (v := ?_) (fun V hV => ?_) ?_
          rotate_left
          · go_simp
            try with_reducible rfl
          try simp only [Act.put, List.getElem_toArray, List.getElem_cons_zero, List.getElem_cons_succ, List.setIfInBounds_toArray, List.set_cons_zero, List.set_cons_succ]
          refine tkH (i := 7) (v := ?_) (fun V hV => ?_) ?_
          rotate_left
          · go_simp
            try with_reducible rfl
          try simp only [Act.put, List.getElem_toArray, List.getElem_cons_zero, List.getElem_cons_succ, List.setIfInBounds_toArray, List.set_cons_zero, List.set_cons_succ]
          refine wpAnyH_done (by kernel_rfl) ?_ _
          have HB8 := hid hS
          clear hS
          cases s with
          | none =>
            obtain rfl : false = fb := HFB.out
            have HNX : Hid (chG (isC p) (prC p) (k + 1) (M - (k + 1)) (some k) = cheapR p) := hid (by have h := HGO.out; rw [if_pos (by rw [HI1.out, chT]; rfl)] at h; exact h.symm)
            go_wp2_with fail
            go_roundw
            case rel => exact ⟨k + 1, some k, by omega, by go_num, rfl, rfl, (fun y hy => by cases hy; omega), HB8.out, HNX.out⟩
            case measure => simp [intOf]; omega
          | some b =>
            obtain rfl : true = fb := HFB.out
            obtain rfl : b = bb := HBB.out
            have HCT : Hid ((isC p k && chT (prC p) k (some b)) = (decide (pk < pb) || (decide (pk = pb) && shorterB (bitsL (k : Nat)) (bitsL (b : Nat))))) := hid (by rw [HI1.out, chT, HPK.out, HPB.out]; rfl)
            by_cases hlt2 : pk < pb
            · skip
              have HNX : Hid (chG (isC p) (prC p) (k + 1) (M - (k + 1)) (some k) = cheapR p) := hid (by have h := HGO.out; rw [if_pos (by rw [HCT.out]; simp [hlt2])] at h; exact h.symm)
              go_wp2_with fail
              go_roundw
              case rel => exact ⟨k + 1, some k, by omega, by go_num, rfl, rfl, (fun y hy => by cases hy; omega), HB8.out, HNX.out⟩
              case measure => simp [intOf]; omega
            · skip
              by_cases heq : pk = pb
              · skip
                obtain rfl := heq
                go_wp2_with fail
                (with_reducible refine (HBT.out k _ hk4).mono ?_)
                rintro e w9 ⟨v9, rfl, ho9, hb⟩
                obtain ⟨q9, c9, rfl, hi9⟩ := ho9.slice
                obtain ⟨N9, hN9⟩ : ∃ n, (bitsL (k : Nat)).length = n := ⟨_, rfl⟩
                have hl9 : N9 ≤ 12 := by rw [← hN9]; exact bits_len _
                rw [hN9] at hi9 ⊢
                have HI9 := hid hi9
                have HB9 := hid (HB8.out.step hb)
                clear ho9 hi9 hN9 hb
                go_wp2_with fail
                (with_reducible refine (HBT.out b _ hb4).mono ?_)
                rintro e w10 ⟨v10, rfl, ho10, hb⟩
                obtain ⟨q10, c10, rfl, hi10⟩ := ho10.slice
                obtain ⟨N10, hN10⟩ : ∃ n, (bitsL (b : Nat)).length = n := ⟨_, rfl⟩
                have hl10 : N10 ≤ 12 := by rw [← hN10]; exact bits_len _
                rw [hN10] at hi10 ⊢
                have HI10 := hid hi10
                have HB10 := hid (HB9.out.step hb)
                have HI9b := hid (HI9.out.below hb)
                clear ho10 hi10 hN10 hb
                go_wp2_with fail
                (with_reducible refine (shorter_any q9 N9 c9 _ q10 N10 c10 _ w10 HI9b.out HI10.out (by omega) (by omega)).mono ?_)
                rintro e w11 ⟨rfl, nn, hw⟩
                have HB11 : Hid (Boxed1 w #[.slice lp ln lc, .int .i64 p.reserve, .slice tp tn tc, .slice rp rn rc] 26 w11) := hid (by rw [hw]; exact HB10.out.drewN nn)
                clear hw
                cases hsh : shorterB (bitsL (k : Nat)) (bitsL (b : Nat))
                · skip
                  have HNX : Hid (chG (isC p) (prC p) (k + 1) (M - (k + 1)) (some b) = cheapR p) := hid (by have h := HGO.out; rw [if_neg (by rw [HCT.out, hsh]; simp)] at h; exact h.symm)
                  go_wp2_with fail
                  go_roundw
                  case rel => exact ⟨k + 1, some b, by omega, by go_num, rfl, rfl, (fun y hy => by have := HS.out y hy; omega), HB11.out, HNX.out⟩
                  case measure => simp [intOf]; omega
                · skip
                  have HNX : Hid (chG (isC p) (prC p) (k + 1) (M - (k + 1)) (some k) = cheapR p) := hid (by have h := HGO.out; rw [if_pos (by rw [HCT.out, hsh]; simp)] at h; exact h.symm)
                  go_wp2_with fail
                  go_roundw
                  case rel => exact ⟨k + 1, some k, by omega, by go_num, rfl, rfl, (fun y hy => by cases hy; omega), HB11.out, HNX.out⟩
                  case measure => simp [intOf]; omega
              · skip
                have HNX : Hid (chG (isC p) (prC p) (k + 1) (M - (k + 1)) (some b) = cheapR p) := hid (by have h := HGO.out; rw [if_neg (by rw [HCT.out]; simp [hlt2, heq])] at h; exact h.symm)
                go_wp2_with fail
                go_roundw
                case rel => exact ⟨k + 1, some b, by omega, by go_num, rfl, rfl, (fun y hy => by have := HS.out y hy; omega), HB8.out, HNX.out⟩
                case measure => simp [intOf]; omega
        · skip
          have HNX : Hid (chG (isC p) (prC p) (k + 1) (M - (k + 1)) s = cheapR p) := hid (by have h := HGO.out; rw [if_neg (by rw [HIS.out]; simp [hkr])] at h; exact h.symm)
          go_wp2_with fail
          go_roundw
          case rel => exact ⟨k + 1, s, by omega, by go_num, rfl, rfl, (fun y hy => by have := HS.out y hy; omega), HB6.out, HNX.out⟩
          case measure => simp [intOf]; omega
    · skip
      have hnle : ¬ (k : Int) ≤ (M : Int) - 1 := by omega
      have HX : Hid (cheapR p = s) := hid (by rw [← HR.out, show M - k = 0 by omega]; rfl)
      go_wp2_with fail
      go_ret2
      exact ⟨by rw [HX.out]; rfl, HB1.out.below⟩


/-- A slice's three words. -/
def encS (d : Option Addr × Nat × Nat) : List Value := [.slice d.1 d.2.1 d.2.2]
theorem encS_len (d : Option Addr × Nat × Nat) : (encS d).length = 1 := rfl
theorem encS_one (d : Option Addr × Nat × Nat) : ∀ u ∈ encS d, u.oneCell' = true := by intro u hu; simp [encS] at hu; subst hu; rfl
theorem Try.info27 : (Try.prog.info? 27).map (fun i => (i.zero, i.size, i.bytes)) = some (some (.slice none 0 0), 1, 24) := by kernel_rfl
theorem Try.und58 : Try.prog.underlying 58 = some (.slice 27) := by kernel_rfl
/-- Slices of numbers lie in a slice. -/
def ListsAt (w : World) (p : Option Addr) (n : Nat) (ls : List (List Int)) : Prop := ∃ ds : List (Option Addr × Nat × Nat), RowsAt encS 1 w p n ds ∧ ds.length = ls.length ∧ ∀ (i : Nat) (d : Option Addr × Nat × Nat) (l : List Int), ds[i]? = some d → ls[i]? = some l → IntsAt w d.1 d.2.1 l
theorem ListsAt.below {w w' : World} {p : Option Addr} {n : Nat} {ls : List (List Int)} (h : ListsAt w p n ls) (hb : Below w.heap.size w w') : ListsAt w' p n ls := by
  obtain ⟨ds, h1, h2, h3⟩ := h
  exact ⟨ds, h1.below hb, h2, fun i d l hd hl => (h3 i d l hd hl).below hb⟩
theorem ListsAt.len {w : World} {p : Option Addr} {n : Nat} {ls : List (List Int)} (h : ListsAt w p n ls) : n = ls.length := by
  obtain ⟨ds, h1, h2, _⟩ := h
  rw [h1.1, h2]
/-- An own slice of slices that lie elsewhere. -/
def OwnLists (w : World) (base : Nat) (v : Value) (ls : List (List Int)) : Prop := ∃ ds : List (Option Addr × Nat × Nat), OwnRows encS 1 27 w base v ds ∧ ds.length = ls.length ∧ ∀ (i : Nat) (d : Option Addr × Nat × Nat) (l : List Int), ds[i]? = some d → ls[i]? = some l → IntsAt w d.1 d.2.1 l ∧ ∀ a, d.1 = some a → a.block < w.heap.size ∧ some a.block ≠ v.ownBlock
theorem ownLists_nil (w : World) (base : Nat) : OwnLists w base (.slice none 0 0) [] := ⟨[], ownRows_nil _ _ _ _ _, rfl, fun i d l hd => by simp at hd⟩
theorem OwnLists.below {w w' : World} {base : Nat} {v : Value} {ls : List (List Int)} (h : OwnLists w base v ls) (hb : Below w.heap.size w w') : OwnLists w' base v ls := by
  obtain ⟨ds, h1, h2, h3⟩ := h
  exact ⟨ds, h1.below hb, h2, fun i d l hd hl => ⟨(h3 i d l hd hl).1.below hb, fun a ha => ⟨Nat.lt_of_lt_of_le ((h3 i d l hd hl).2 a ha).1 hb.size, ((h3 i d l hd hl).2 a ha).2⟩⟩⟩
theorem OwnLists.slice {w : World} {base : Nat} {v : Value} {ls : List (List Int)} (h : OwnLists w base v ls) : ∃ p c, v = .slice p ls.length c ∧ ListsAt w p ls.length ls := by
  obtain ⟨ds, h1, h2, h3⟩ := h
  obtain ⟨p, c, rfl, hr⟩ := h1.slice encS_len
  rw [h2] at hr ⊢
  exact ⟨p, c, rfl, ds, hr, h2, fun i d l hd hl => (h3 i d l hd hl).1⟩
theorem encS_lit (w : World) (p : Option Addr) (n c : Nat) : RowsAt encS 1 (w.alloc (.cells #[.slice p n c] 27)) (some ⟨w.heap.size, 0, none⟩) 1 [(p, n, c)] := by
  refine ⟨rfl, fun i d hi => ⟨w.heap.size, 0, rfl, by simp, fun j v hj => ?_⟩⟩
  have hi0 : i = 0 := by have := (List.getElem?_eq_some_iff.1 hi).1; simp at this; omega
  subst hi0
  cases hi
  rw [show 0 + 0 * 1 + j = j by omega]
  exact cell_box w _ 27 j v (by simpa [encS] using hj)
/-- One more slice at the end. -/
theorem OwnLists.more {w w' : World} {base : Nat} {v v' : Value} {ds : List (Option Addr × Nat × Nat)} {ls : List (List Int)} {p : Option Addr} {n c : Nat} {l : List Int} (hlen : ds.length = ls.length)
    (hds : ∀ (i : Nat) (d : Option Addr × Nat × Nat) (l : List Int), ds[i]? = some d → ls[i]? = some l → IntsAt w d.1 d.2.1 l ∧ ∀ a, d.1 = some a → a.block < w.heap.size ∧ some a.block ≠ v.ownBlock) (hl : IntsAt w p n l) (hp : ∀ a, p = some a → a.block < w.heap.size ∧ some a.block ≠ v.ownBlock)
    (hv : OwnRows encS 1 27 w' base v' (ds ++ [(p, n, c)])) (hk : ∀ k, k < w.heap.size → some k ≠ v.ownBlock → w'.heap[k]? = w.heap[k]?) (hsz : w.heap.size ≤ w'.heap.size) (hn : v'.ownBlock = v.ownBlock ∨ v'.ownBlock = some w.heap.size) : OwnLists w' base v' (ls ++ [l]) := by
  have hall : ∀ (d : Option Addr × Nat × Nat) (x : List Int), IntsAt w d.1 d.2.1 x → (∀ a, d.1 = some a → a.block < w.heap.size ∧ some a.block ≠ v.ownBlock) → IntsAt w' d.1 d.2.1 x ∧ ∀ a, d.1 = some a → a.block < w'.heap.size ∧ some a.block ≠ v'.ownBlock := by
    intro d x hx ha
    refine ⟨hx.kept fun a e _ hlt => hk _ hlt (ha a e).2, fun a e => ⟨Nat.lt_of_lt_of_le (ha a e).1 hsz, ?_⟩⟩
    rcases hn with h | h
    · rw [h]; exact (ha a e).2
    · rw [h]; intro h2; have := (ha a e).1; injection h2 with h3; omega
  refine ⟨_, hv, by simp [hlen], fun i d x hd hx => ?_⟩
  by_cases hi : i < ds.length
  · rw [List.getElem?_append_left hi] at hd
    rw [List.getElem?_append_left (by omega)] at hx
    exact hall d x (hds i d x hd hx).1 (hds i d x hd hx).2
  · rw [List.getElem?_append_right (by omega)] at hd
    rw [List.getElem?_append_right (by omega)] at hx
    have e : i - ds.length = 0 := by have := (List.getElem?_eq_some_iff.1 hd).1; simp at this; omega
    have e2 : i - ls.length = 0 := by omega
    rw [e] at hd; rw [e2] at hx
    cases hd; cases hx
    exact hall (p, n, c) _ hl hp
theorem append_lists {ops : Array Oper} {rest : List Oper} {o : Oper} {a : Act} {w : World} {Q : Exit → Act → World → Prop} (hgd : o.guard = none) (s x : Operand)
    (ho : o.op = .call { callee := .builtin .append, args := #[s, x], argTypes := #[58, 58] })
    (base : Nat) (v : Value) (ls : List (List Int)) (p : Option Addr) (n c : Nat) (l : List Int) (hown : OwnLists w base v ls) (hs : a.eval s = v) (hx : a.eval x = .slice (some ⟨w.heap.size, 0, none⟩) 1 1)
    (hl : IntsAt w p n l) (hp : ∀ a, p = some a → a.block < w.heap.size ∧ some a.block ≠ v.ownBlock) (hlen : ls.length ≤ 1000000) (hbase : base ≤ w.heap.size)
    (h : ∀ v' w', OwnLists w' base v' (ls ++ [l]) → Below base w w' → wpList Try.prog ops Q rest (a.put o.dst v') w') :
    wpList Try.prog ops Q (o :: rest) a (w.alloc (.cells #[.slice p n c] 27)) := by
  obtain ⟨i0, hi, hz0, hz1, hz2⟩ := info_parts Try.info27
  obtain ⟨ds, h1, h2, h3⟩ := hown
  have hb : Below w.heap.size w (w.alloc (.cells #[.slice p n c] 27)) := (Below.refl _ _).alloc (Nat.le_refl _) _
  refine wpList_append_own_at _ hgd s x 58 ho base 27 i0 (.slice none 0 0) 1 24 Try.und58 hi hz0 hz1 hz2 rfl (by decide) v ds.length _ hs (h1.below hb) ⟨w.heap.size, 0, none⟩ 1 1 [.slice p n c] hx rfl (cell_one_new _ _ _) (by simp [Value.oneCell']) (by unfold maxLen; omega) (by omega) (by simp; omega) ?_
  intro v' w' g1 g2 _ g4
  refine h v' w' (OwnLists.more h2 (fun i d l hd hl => ⟨(h3 i d l hd hl).1.below hb, fun a ha => ⟨Nat.lt_of_lt_of_le ((h3 i d l hd hl).2 a ha).1 hb.size, ((h3 i d l hd hl).2 a ha).2⟩⟩) (hl.below hb) (fun a ha => ⟨Nat.lt_of_lt_of_le (hp a ha).1 hb.size, (hp a ha).2⟩) (c := c) ?_ (fun k hk hne => g2.block k hk hne) g2.size g4) ?_
  · unfold OwnRows
    rw [List.length_append, List.flatMap_append]
    exact g1
  · exact (hb.mono hbase).grown g2 (by simp; omega) fun k hk => (World.ownsRow.lt h1 k hk).1
/-- The truths among the first. -/
def truTo (p : Prg) (k : Nat) : List (List Int) := ((List.range k).filter fun m : Nat => decide (rightN p (nthL p.losses m) = 2 ^ p.reps.length - 1)).map fun m : Nat => nthL p.losses m
theorem truTo_succ (p : Prg) (k : Nat) : truTo p (k + 1) = if rightN p (nthL p.losses k) = 2 ^ p.reps.length - 1 then truTo p k ++ [nthL p.losses k] else truTo p k := by
  unfold truTo
  rw [List.range_succ, List.filter_append, List.map_append]
  by_cases h : rightN p (nthL p.losses k) = 2 ^ p.reps.length - 1 <;> simp [h]
theorem truTo_len (p : Prg) (k : Nat) : (truTo p k).length ≤ k := by
  unfold truTo
  rw [List.length_map]
  exact Nat.le_trans (List.length_filter_le _ _) (by simp)
def RetLists (w : World) (ls : List (List Int)) (e : Ending) (w' : World) : Prop := ∃ p c, e = .returned (.slice p ls.length c) ∧ ListsAt w' p ls.length ls ∧ Below w.heap.size w w'
theorem own_far {w : World} {base : Nat} {v : Value} {l : List Int} (h : OwnInts w base v l) : ∃ p c, v = .slice p l.length c ∧ IntsAt w p l.length l ∧ ∀ a, p = some a → base ≤ a.block ∧ a.block < w.heap.size := by
  obtain ⟨p, c, e, hi⟩ := h.slice
  refine ⟨p, c, e, hi, fun a ha => ?_⟩
  subst ha
  rcases h.2 with ⟨e2, _⟩ | ⟨g, cap, cur, e2, hg, hh, _⟩
  · rw [e] at e2; cases e2
  · rw [e] at e2; cases e2
    exact ⟨hg, (Array.getElem?_eq_some_iff.1 hh).1⟩
theorem OwnLists.lt {w : World} {base : Nat} {v : Value} {ls : List (List Int)} (h : OwnLists w base v ls) : ∀ g, v.ownBlock = some g → base ≤ g ∧ g < w.heap.size := by
  obtain ⟨ds, h1, _, _⟩ := h
  exact h1.lt
theorem allTo_get (p : Prg) {k M : Nat} (h : k < M) : (castL (allTo p M))[k]?.getD 0 = ((rightN p (nthL p.losses k) : Nat) : Int) := by
  rw [castL_get]
  simp [allTo, h]

set_option maxRecDepth 100000 in
set_option maxHeartbeats 16000000 in
theorem truthsR_any (p : Prg) (lp : Option Addr) (ln lc : Nat) (tp : Option Addr) (tn tc : Nat) (rp : Option Addr) (rn rc : Nat) (w : World) (hp : PrgAt w p lp ln tp tn rp rn) (ok : OkP p) :
    Calls Try.prog 33 #[.agg #[.slice lp ln lc, .int .i64 p.reserve, .slice tp tn tc, .slice rp rn rc]] w (RetLists w (truR p)) := by
  have hrn5 : rn ≤ 5 := by rw [hp.r.1]; exact ok.k5
  have hln : ln ≤ 4 := by rw [hp.l.1]; exact ok.n4
  have HRN := hid hp.r.1
  have hm1 := ok.pos; have hm2 := ok.many
  have HA := hid (fun W (hW : Below w.heap.size w W) => all_any p lp ln lc tp tn tc rp rn rc W (hp.below hW) ok)
  have HFU := hid (fun W => full_any p lp ln lc tp tn tc rp rn rc W (by omega))
  have HNT := hid (fun W (k : Nat) (hk : k ≤ 1000000) (hW : Below w.heap.size w W) => nth_any p lp ln lc tp tn tc rp rn rc (k : Int) W (hp.below hW) (by omega) ok.lossOk (by omega) (by omega))
  have HOK := hid ok
  obtain ⟨M, hM⟩ : ∃ M : Nat, prodL p.losses = M := ⟨(prodL p.losses).toNat, by rw [Int.toNat_of_nonneg (by omega)]⟩
  have HAM : Hid (castL (allP p) = castL (allTo p M)) := hid (by rw [allP, hM]; rfl)
  have HTR : Hid (truR p = truTo p M) := hid (by rw [truR, hM]; rfl)
  rw [hM] at hm1 hm2
  clear hp ok hM
  obtain ⟨N, hN⟩ : ∃ N : Nat, 2 ^ rn - 1 = N := ⟨_, rfl⟩
  have HNN : Hid (2 ^ p.reps.length - 1 = N) := hid (by rw [← HRN.out, hN])
  have HEV : Hid (everyN rn = (N : Int)) := hid (by rw [everyN, hN])
  rw [HEV.out] at HFU
  clear hN
  have H0 : Hid (Boxed1 w #[.slice lp ln lc, .int .i64 p.reserve, .slice tp tn tc, .slice rp rn rc] 26 (w.alloc (.cells #[.slice lp ln lc, .int .i64 p.reserve, .slice tp tn tc, .slice rp rn rc] 26))) := hid (Boxed1.start _ _ _)
  have e0 := H0.out.cell 0 (v := .slice lp ln lc) rfl; have e1 := H0.out.cell 1 (v := .int .i64 p.reserve) rfl; have e2 := H0.out.cell 2 (v := .slice tp tn tc) rfl; have e3 := H0.out.cell 3 (v := .slice rp rn rc) rfl
  go_enter Try.func33, Try.ntmps33
  go_wp2_with fail
  (with_reducible refine (HA.out _ H0.out.below).mono ?_)
  rintro e w1 ⟨v1, rfl, ho, hb⟩
  obtain ⟨q, c, rfl, hi⟩ := ho.slice
  rw [HAM.out, allTo_len] at hi
  rw [HAM.out, allTo_len]
  have HI1 := hid hi
  have HB1 := hid (H0.out.step hb)
  clear e0 e1 e2 e3 hb hi ho
  go_wp2_with fail
  go_loopw [4, 5] (fun v i wr => ∃ k : Nat, k ≤ M ∧ i = .int .i64 k ∧ OwnLists wr w1.heap.size v (truTo p k) ∧ Below w1.heap.size w1 wr) (fun _ i _ => M - (intOf i).toNat)
  case atStart => exact ⟨0, by omega, rfl, ownLists_nil _ _, Below.refl _ _⟩
  case round =>
    clear H0
    obtain ⟨k, hk, rfl, hown, hbw⟩ := hrel
    have HO := hid hown; have HI := hid (HI1.out.below hbw); have HB := hid (HB1.out.step hbw); have HW := hid hbw
    clear hown hbw
    by_cases hlt : k < M
    · skip
      obtain ⟨b2, o2, rfl, hb2, c0⟩ := HI.out.at hlt
      rw [allTo_get p hlt] at c0
      have HS := hid (truTo_succ p k)
      rw [HNN.out] at HS
      obtain ⟨z, hz⟩ : ∃ z, rightN p (nthL p.losses (k : Int)) = z := ⟨_, rfl⟩
      rw [hz] at c0 HS
      have HC : Hid (∀ V, Below wr.heap.size wr V → V.cell? ⟨b2, o2 + k, none⟩ = some (.int .i64 (z : Int))) := hid (fun V hV => (hV.cell (World.block_lt_of_cell? _ _ c0)).trans c0)
      clear c0 hz
      have hw1 : IntKind.i64.wrap ((k : Int) + 1) = (k : Int) + 1 := IntWalk.i64_in _ (by omega)
      go_upto_region 6 with fail
      refine wp_region_held_drew (S := fun V => Below wr.heap.size wr V) (by kernel_rfl) ((Below.refl _ _).drew) (fun hS => ?_)
      simp only [List.size_toArray, List.length_cons, List.length_nil, Nat.reduceAdd, Array.replicate_succ, Array.replicate_zero, List.push_toArray, List.nil_append, List.cons_append]
      refine tkH (i := 0) (v := ?_) (fun V hV => ?_) ?_
      rotate_left
      · go_simp
        try with_reducible rfl
      try simp only [Act.put, List.getElem_toArray, List.getElem_cons_zero, List.setIfInBounds_toArray, List.set_cons_zero, List.set_cons_succ]
      refine tkH (i := 1) (v := ?_) (fun V hV => ?_) ?_
      rotate_left
      · go_simp
        try with_reducible rfl
      try simp only [Act.put, List.getElem_toArray, List.getElem_cons_zero, List.getElem_cons_succ, List.setIfInBounds_toArray, List.set_cons_zero, List.set_cons_succ]
      refine tkH (i := 2) (v := ?_) (fun V hV => ?_) ?_
      rotate_left
      · go_simp
        try with_reducible rfl
      try simp only [Act.put, List.getElem_toArray, List.getElem_cons_zero, List.getElem_cons_succ, List.setIfInBounds_toArray, List.set_cons_zero, List.set_cons_succ]
      refine tkH (i := 3) (v := ?_) (fun V hV => ?_) ?_
      rotate_left
      · have c0 := HC.out V hV; go_simp
        try with_reducible rfl
      try simp only [Act.put, List.getElem_toArray, List.getElem_cons_zero, List.getElem_cons_succ, List.setIfInBounds_toArray, List.set_cons_zero, List.set_cons_succ]
      refine tkH (i := 4) (v := ?_) (fun V hV => ?_) ?_
      rotate_left
      · have hBV := HB.out.step hV; have e0 := hBV.cell 0 (v := .slice lp ln lc) rfl; have e1 := hBV.cell 1 (v := .int .i64 p.reserve) rfl; have e2 := hBV.cell 2 (v := .slice tp tn tc) rfl; have e3 := hBV.cell 3 (v := .slice rp rn rc) rfl; go_simp
        try with_reducible rfl
      try simp only [Act.put, List.getElem_toArray, List.getElem_cons_zero, List.getElem_cons_succ, List.setIfInBounds_toArray, List.set_cons_zero, List.set_cons_succ]
      refine wpAnyH_ready (rs := [5]) (by kernel_rfl) (by simp) ?_
      refine AllReadyH.cons (o := _) rfl (fun K hK => ?_) AllReadyH.nil
      go_simp
      (with_reducible refine (HFU.out _).mono ?_)
      rintro e w6 ⟨rfl, hb⟩
      refine hK.out _ _ (hS.trans (hb.mono hS.size)) (fun hS => ?_)
      clear hK K
      try simp only [List.setIfInBounds_toArray, List.set_cons_zero, List.set_cons_succ]
      refine tkH (i := 6) (v := ?_) (fun V hV => ?_) ?_
      rotate_left
      · go_simp
        try with_reducible rfl
      try simp only [Act.put, List.getElem_toArray, List.getElem_cons_zero, List.getElem_cons_succ, List.setIfInBounds_toArray, List.set_cons_zero, List.set_cons_succ]
      refine wpAnyH_done (by kernel_rfl) ?_ _
      by_cases hzn : z = N
      · skip
        subst hzn
        rw [if_pos rfl] at HS
        have HO6 := hid (HO.out.below hS); have HB6 := hid (HB.out.step hS); have HW6 := hid (HW.out.trans (hS.mono HW.out.size))
        clear hS
        have e0 := HB6.out.cell 0 (v := .slice lp ln lc) rfl; have e1 := HB6.out.cell 1 (v := .int .i64 p.reserve) rfl; have e2 := HB6.out.cell 2 (v := .slice tp tn tc) rfl; have e3 := HB6.out.cell 3 (v := .slice rp rn rc) rfl
        go_wp2_with fail
        (with_reducible refine (HNT.out _ k (by omega) HB6.out.below).mono ?_)
        rintro e w7 ⟨v7, rfl, ho7, hb⟩
        obtain ⟨q7, c7, rfl, hi7, hf7⟩ := own_far ho7
        obtain ⟨L, hL⟩ : ∃ l, nthL p.losses (k : Int) = l := ⟨_, rfl⟩
        rw [hL] at HS hi7 ⊢
        have HL7 := hid hi7
        have HO7 := hid (HO6.out.below hb); have HW7 := hid (HW6.out.trans (hb.mono HW6.out.size))
        have HF7 : Hid (∀ a, q7 = some a → a.block < w7.heap.size ∧ some a.block ≠ u4.ownBlock) := hid (fun a ha => ⟨(hf7 a ha).2, fun h => by have h1 := (hf7 a ha).1; have h2 := (HO6.out.lt _ h.symm).2; omega⟩)
        clear ho7 hb hi7 hf7 hL e0 e1 e2 e3
        have hle : (truTo p k).length ≤ 1000000 := by have := truTo_len p k; omega
        have hsz : w1.heap.size ≤ w7.heap.size := HW7.out.size
        go_wp2_with (at_builtin; refine append_lists (by rfl) _ _ (by rfl) w1.heap.size _ (truTo p k) q7 L.length c7 L HO7.out (by rfl) (by rfl) HL7.out HF7.out hle hsz ?_; intro v' w' h1 h2)
        go_roundw
        case rel => exact ⟨k + 1, by omega, by go_num, by rw [HS.out]; exact h1, HW7.out.trans h2⟩
        case measure => simp [intOf]; omega
      · skip
        have hne : ((z : Int) == (N : Int)) = false := by simpa using fun h : (z : Int) = N => hzn (by omega)
        rw [if_neg hzn] at HS
        have HO6 := hid (HO.out.below hS); have HB6 := hid (HB.out.step hS); have HW6 := hid (HW.out.trans (hS.mono HW.out.size))
        clear hS
        go_wp2_with fail
        go_roundw
        case rel => exact ⟨k + 1, by omega, by go_num, by rw [HS.out]; exact HO6.out, HW6.out⟩
        case measure => simp [intOf]; omega
    · skip
      have hkM : k = M := by omega
      subst hkM
      obtain ⟨p9, c9, rfl, hl9⟩ := HO.out.slice
      have HL9 := hid hl9
      clear hl9
      go_wp2_with fail
      go_ret
      exact ⟨p9, c9, by rw [HTR.out]; rfl, by rw [HTR.out]; exact HL9.out, HB.out.below⟩


theorem OwnRows.box {α : Type} {enc : α → List Value} {z : Nat} {T : TypeId} {w : World} {base : Nat} {v : Value} {l : List α} (h : OwnRows enc z T w base v l) :
    ∃ q c, v = .slice q l.length c ∧ (0 < l.length → ∃ g, q = some ⟨g, 0, none⟩ ∧ base ≤ g ∧ BoxIs g (l.flatMap enc).toArray w) := by
  have h0 := h
  rcases h.2 with ⟨rfl, hn⟩ | ⟨g, cap, cur, rfl, hg, hh, hn, hm, hs, ht⟩
  · exact ⟨none, 0, by rw [hn], fun hp => by omega⟩
  · refine ⟨_, cap, rfl, fun _ => ⟨g, rfl, hg, (Array.getElem?_eq_some_iff.1 hh).1, fun k v hk => ?_⟩⟩
    have e : ∀ y : Nat, (⟨g, 0, none⟩ : Addr).add y = ⟨g, 0 + y, none⟩ := fun y => by unfold Addr.add; split <;> simp_all
    have hk' : (l.flatMap enc)[k]? = some v := by simpa using hk
    have hc := World.ownsRow.cells h0 (g := g) rfl k v hk'
    rw [e, Nat.zero_add] at hc
    exact ⟨hc, by simp only [World.frozen?]; rw [hh]; rfl⟩
theorem box_rows {α : Type} {enc : α → List Value} {z : Nat} (hz : ∀ c, (enc c).length = z) {g : Nat} {l : List α} {w : World} (h : BoxIs g (l.flatMap enc).toArray w) : RowsAt enc z w (some ⟨g, 0, none⟩) l.length l := by
  refine ⟨rfl, fun i c hi => ⟨g, 0, rfl, h.1, fun j v hj => ?_⟩⟩
  rw [show 0 + i * z + j = i * z + j by omega]
  exact (h.2 (i * z + j) v (by simpa using flat_get hz l i j c v hi hj)).1
theorem flatB_set (a : Rng × Rng) : ∀ (L : List (Rng × Rng)) (i : Nat), i < L.length →
    ((((L.flatMap cellsB).set (i * 4) (.int .i64 a.1.lo)).set (i * 4 + 1) (.int .i64 a.1.hi)).set (i * 4 + 2) (.int .i64 a.2.lo)).set (i * 4 + 3) (.int .i64 a.2.hi) = (L.set i a).flatMap cellsB
  | [], i, h => by simp at h
  | x :: L, 0, _ => by simp [cellsB]
  | x :: L, i + 1, h => by
    have ih := flatB_set a L i (by simpa using h)
    simp only [List.flatMap_cons, List.set_cons_succ]
    rw [← ih]
    simp only [cellsB, List.cons_append, List.nil_append]
    rw [show (i + 1) * 4 = i * 4 + 1 + 1 + 1 + 1 by omega, show i * 4 + 1 + 1 + 1 + 1 + 1 = (i * 4 + 1) + 1 + 1 + 1 + 1 by omega, show i * 4 + 1 + 1 + 1 + 1 + 2 = (i * 4 + 2) + 1 + 1 + 1 + 1 by omega, show i * 4 + 1 + 1 + 1 + 1 + 3 = (i * 4 + 3) + 1 + 1 + 1 + 1 by omega]
    simp only [List.set_cons_succ]
/-- A pair of ranges is stored. -/
theorem BoxIs.setB {g i : Nat} {L : List (Rng × Rng)} {W : World} (h : BoxIs g (L.flatMap cellsB).toArray W) (hi : i < L.length) (a : Rng × Rng) :
    BoxIs g ((L.set i a).flatMap cellsB).toArray ((((W.setCell ⟨g, i * 4, none⟩ (.int .i64 a.1.lo)).setCell ⟨g, i * 4 + 1, none⟩ (.int .i64 a.1.hi)).setCell ⟨g, i * 4 + 2, none⟩ (.int .i64 a.2.lo)).setCell ⟨g, i * 4 + 3, none⟩ (.int .i64 a.2.hi)) := by
  have h1 := (((h.put (j := i * 4) (.int .i64 a.1.lo)).put (j := i * 4 + 1) (.int .i64 a.1.hi)).put (j := i * 4 + 2) (.int .i64 a.2.lo)).put (j := i * 4 + 3) (.int .i64 a.2.hi)
  rw [← flatB_set a L i hi]
  simpa using h1
theorem BoxIs.getB {g i : Nat} {L : List (Rng × Rng)} {W : World} (h : BoxIs g (L.flatMap cellsB).toArray W) {a : Rng × Rng} (hi : L[i]? = some a) {j : Nat} {v : Value} (hj : (cellsB a)[j]? = some v) : W.cell? ⟨g, i * 4 + j, none⟩ = some v ∧ W.frozen? ⟨g, i * 4 + j, none⟩ = false :=
  h.2 (i * 4 + j) v (by simpa using flat_get cellsB_len L i j a v hi hj)
/-- Both ranges of a treaty, of some losses. -/
def bndP (p : Prg) (Ls : List (List Int)) (i : Nat) : Rng × Rng := (bndR (fun a => a.1 i) p Ls, bndR (fun a => keepsF p.ts a.1 i) p Ls)
def bndsR (p : Prg) (Ls : List (List Int)) : List (Rng × Rng) := (List.range p.ts.length).map (bndP p Ls)
/-- In the midst of a round: the first k have been widened. -/
def midB (p : Prg) (Ls : List (List Int)) (l : List Int) (k : Nat) : List (Rng × Rng) := (List.range p.ts.length).map fun i => if i < k then bndP p (Ls ++ [l]) i else bndP p Ls i
theorem bndR_snoc (g : (Nat → Int) × Int → Int) (p : Prg) (Ls : List (List Int)) (l : List Int) : bndR g p (Ls ++ [l]) = widerR (bndR g p Ls) (g (payA p l)) := by
  unfold bndR; rw [List.foldl_append]; rfl
theorem midB_zero (p : Prg) (Ls : List (List Int)) (l : List Int) : midB p Ls l 0 = bndsR p Ls := by simp [midB, bndsR]
theorem midB_end (p : Prg) (Ls : List (List Int)) (l : List Int) : midB p Ls l p.ts.length = bndsR p (Ls ++ [l]) := by
  unfold midB bndsR
  refine List.map_congr_left fun i hi => ?_
  rw [if_pos (List.mem_range.1 hi)]
theorem midB_len (p : Prg) (Ls : List (List Int)) (l : List Int) (k : Nat) : (midB p Ls l k).length = p.ts.length := by simp [midB]
theorem midB_get {p : Prg} {Ls : List (List Int)} {l : List Int} {k : Nat} (h : k < p.ts.length) : (midB p Ls l k)[k]? = some (bndP p Ls k) := by simp [midB, h]
theorem midB_succ {p : Prg} {Ls : List (List Int)} {l : List Int} {k : Nat} (_h : k < p.ts.length) : (midB p Ls l k).set k (bndP p (Ls ++ [l]) k) = midB p Ls l (k + 1) := by
  refine List.ext_getElem (by simp [midB]) fun i h1 h2 => ?_
  rw [List.getElem_set]
  by_cases e : k = i
  · subst e; simp [midB]
  · simp only [e, if_false, midB, List.getElem_map, List.getElem_range]
    by_cases h3 : i < k
    · rw [if_pos h3, if_pos (by omega)]
    · rw [if_neg h3, if_neg (by omega)]
theorem bndP_snoc (p : Prg) (Ls : List (List Int)) (l : List Int) (i : Nat) : bndP p (Ls ++ [l]) i = (widerR (bndP p Ls i).1 ((payA p l).1 i), widerR (bndP p Ls i).2 (keepsF p.ts (payA p l).1 i)) := by
  unfold bndP; rw [bndR_snoc, bndR_snoc]


theorem Try.info64 : (Try.prog.info? 64).map (fun i => (i.zero, i.size, i.bytes)) = some (some (.agg #[.int .i64 0, .int .i64 0, .int .i64 0, .int .i64 0]), 4, 32) := by kernel_rfl
theorem Try.und54 : Try.prog.underlying 54 = some (.slice 64) := by kernel_rfl
/-- The rows of an own slice, by its block. -/
def RowsB (base : Nat) (q : Option Addr) (L : List (Rng × Rng)) (W : World) : Prop := 0 < L.length → ∃ g, q = some ⟨g, 0, none⟩ ∧ base ≤ g ∧ BoxIs g (L.flatMap cellsB).toArray W
theorem RowsB.below {base : Nat} {q : Option Addr} {L : List (Rng × Rng)} {W W' : World} (h : RowsB base q L W) (hb : Below W.heap.size W W') : RowsB base q L W' := fun h0 => by
  obtain ⟨g, e, h1, h2⟩ := h h0
  exact ⟨g, e, h1, h2.below hb⟩
theorem RowsB.far {base : Nat} {q : Option Addr} {L : List (Rng × Rng)} {S : Nat → Prop} {W W' : World} (h : RowsB base q L W) (hn : Near S W W') (hS : ∀ k, base ≤ k → ¬ S k) : RowsB base q L W' := fun h0 => by
  obtain ⟨g, e, h1, h2⟩ := h h0
  exact ⟨g, e, h1, h2.far hn (hS g h1)⟩
theorem bndsR_len (p : Prg) (Ls : List (List Int)) : (bndsR p Ls).length = p.ts.length := by simp [bndsR]
def netR (p : Prg) (Ls : List (List Int)) : Rng := bndR (fun a => a.2) p Ls
def BndsRPost (p : Prg) (tn : Nat) (Ls : List (List Int)) (w : World) : Ending → World → Prop := fun e w' => ∃ q c, e = .returned (.tuple #[.slice q tn c, .agg #[.int .i64 (netR p Ls).lo, .int .i64 (netR p Ls).hi]]) ∧ RowsAt cellsB 4 w' q tn (bndsR p Ls) ∧ (∀ a, q = some a → 0 < tn → w.heap.size ≤ a.block) ∧ Below w.heap.size w w'

set_option maxRecDepth 100000 in
set_option maxHeartbeats 16000000 in
theorem boundsR_any (p : Prg) (lp : Option Addr) (ln lc : Nat) (tp : Option Addr) (tn tc : Nat) (rp : Option Addr) (rn rc : Nat) (lq : Option Addr) (nn nc : Nat) (Ls : List (List Int)) (w : World) (hp : PrgAt w p lp ln tp tn rp rn) (ok : OkP p) (hl : ListsAt w lq nn Ls) (hls : ∀ l ∈ Ls, listedB p.losses l = true) (hnn : nn ≤ 100000) :
    Calls Try.prog 32 #[.agg #[.slice lp ln lc, .int .i64 p.reserve, .slice tp tn tc, .slice rp rn rc], .slice lq nn nc] w (BndsRPost p tn Ls w) := by
  have htn5 : tn ≤ 5 := by rw [hp.t.1]; exact ok.m5
  have HTN := hid hp.t.1
  have HOK := hid ok
  have HP := hid hp
  have HL := hid hl
  have HLB := hid hls
  have HNL := hid hl.len
  have HEV := hid (fun W => every_any p lp ln lc tp tn tc rp rn rc W (by omega))
  have HEB : Hid (0 ≤ everyN tn ∧ everyN tn < 4096) := hid (by obtain ⟨X, hX, hX1, hX2, _⟩ := pow_facts (show tn ≤ 9 by omega); unfold everyN; rw [hX]; omega)
  clear hp hl hls ok
  have H0 : Hid (Boxed2 w #[.slice lp ln lc, .int .i64 p.reserve, .slice tp tn tc, .slice rp rn rc] 26 #[.int .i64 0, .int .i64 0] 55 ((w.alloc (.cells #[.slice lp ln lc, .int .i64 p.reserve, .slice tp tn tc, .slice rp rn rc] 26)).alloc (.cells #[.int .i64 0, .int .i64 0] 55))) := hid (Below.refl _ _)
  have HR0 : Hid (BoxIs (w.heap.size + 1) #[.int .i64 0, .int .i64 0] ((w.alloc (.cells #[.slice lp ln lc, .int .i64 p.reserve, .slice tp tn tc, .slice rp rn rc] 26)).alloc (.cells #[.int .i64 0, .int .i64 0] 55))) := hid (by have h := BoxIs.start (w.alloc (.cells #[.slice lp ln lc, .int .i64 p.reserve, .slice tp tn tc, .slice rp rn rc] 26)) #[.int .i64 0, .int .i64 0] 55; rw [World.size_alloc] at h; exact h)
  go_enter Try.func32, Try.ntmps32
  go_wp2_with fail
  (with_reducible refine (emptyE_any _).mono ?_)
  rintro e w1 ⟨rfl, hb⟩
  have HB1 := hid (H0.out.step (hb.mono (by simp)))
  have HR1 := hid (HR0.out.below hb)
  clear hb H0 HR0
  go_upto_region 3 with fail
  obtain ⟨w2, hw2⟩ : ∃ V, w1.alloc (.cells #[.int .i64 1099511627776, .int .i64 (-1099511627776)] 55) = V := ⟨_, rfl⟩
  rw [hw2]
  have hb : Below w1.heap.size w1 w2 := by rw [← hw2]; exact (Below.refl _ _).alloc (Nat.le_refl _) _
  have HN2 : Hid (BoxIs w1.heap.size #[.int .i64 1099511627776, .int .i64 (-1099511627776)] w2) := hid (by rw [← hw2]; exact BoxIs.start _ _ _)
  have HZ2 : Hid (w1.heap.size < w2.heap.size) := hid HN2.out.1
  have HB2 := hid (HB1.out.step (hb.mono HB1.out.size))
  have HR2 := hid (HR1.out.below hb)
  have HW2 := hid hb
  clear hb hw2
  go_wp2_with fail
  go_loopw [6, 8] (fun o i wr => ∃ k : Nat, k ≤ tn ∧ i = .int .i64 k ∧ OwnRows cellsB 4 64 wr w2.heap.size o (List.replicate k ((⟨1099511627776, -1099511627776⟩, ⟨1099511627776, -1099511627776⟩) : Rng × Rng)) ∧ Below w2.heap.size w2 wr) (fun _ i _ => tn - (intOf i).toNat)
  case atStart => exact ⟨0, by omega, rfl, ownRows_nil _ _ _ _ _, Below.refl _ _⟩
  case round =>
    obtain ⟨k, hk, rfl, ho, hb⟩ := hrel
    have HO := hid ho; have HW := hid hb
    have HB := hid (HB2.out.step (hb.mono HB2.out.size))
    clear ho hb
    have e2 := HB.out.cell1 2 (v := .slice tp tn tc) rfl
    by_cases hlt : k < tn
    · skip
      have hw1 : IntKind.i64.wrap ((k : Int) + 1) = (k : Int) + 1 := IntWalk.i64_in _ (by omega)
      go_wp2_with fail
      (with_reducible refine (emptyE_any _).mono ?_)
      rintro e w3 ⟨rfl, hb3⟩
      go_wp2_with fail
      (with_reducible refine (emptyE_any _).mono ?_)
      rintro e w4 ⟨rfl, hb4⟩
      have HO4 := hid ((HO.out.below hb3).below hb4)
      have HW4 := hid ((HW.out.trans (hb3.mono HW.out.size)).trans (hb4.mono (Nat.le_trans HW.out.size hb3.size)))
      clear hb3 hb4 e2
      have ho3 := HO4.out.below ((Below.refl w4.heap.size w4).alloc (Nat.le_refl _) (.cells #[.int .i64 1099511627776, .int .i64 (-1099511627776), .int .i64 1099511627776, .int .i64 (-1099511627776)] 64))
      have hle : (List.replicate k ((⟨1099511627776, -1099511627776⟩, ⟨1099511627776, -1099511627776⟩) : Rng × Rng)).length ≤ 1000000 := by rw [List.length_replicate]; omega
      have hse := HW4.out.size
      go_wp2_with (at_builtin; refine append_rows cellsB_len (by decide) cellsB_one 54 64 _ 32 (by decide) Try.info64 rfl Try.und54 (by rfl) _ _ (by rfl) w2.heap.size _ _ _ 1 1 [((⟨1099511627776, -1099511627776⟩, ⟨1099511627776, -1099511627776⟩) : Rng × Rng)] ho3 (by rfl) (by rfl) (bnd_lit ((⟨1099511627776, -1099511627776⟩, ⟨1099511627776, -1099511627776⟩) : Rng × Rng) 64) hle (by omega) (by rw [World.size_alloc]; omega) ?_; intro v' w' h1 h2 h3)
      have hb : Below w2.heap.size w4 w' := ((Below.refl _ _).alloc hse _).trans h2
      go_roundw
      case rel => exact ⟨k + 1, by omega, by go_num, by rw [List.replicate_succ']; exact h1, HW4.out.trans hb⟩
      case measure => simp [intOf]; omega
    · skip
      obtain rfl : tn = k := by omega
      obtain ⟨q, c, rfl, hbox⟩ := HO.out.box
      rw [List.length_replicate] at hbox ⊢
      have hrep : List.replicate tn ((⟨1099511627776, -1099511627776⟩, ⟨1099511627776, -1099511627776⟩) : Rng × Rng) = bndsR p [] := by rw [bndsR, ← HTN.out]; show _ = (List.range tn).map (fun _ => ((⟨1099511627776, -1099511627776⟩, ⟨1099511627776, -1099511627776⟩) : Rng × Rng)); rw [List.map_const', List.length_range]
      have HRB : Hid (RowsB w2.heap.size q (bndsR p []) wr) := hid (fun h0 => by rw [← hrep] at h0 ⊢; rw [List.length_replicate] at h0; exact hbox h0)
      have HNB : Hid (BoxIs w1.heap.size #[.int .i64 (netR p []).lo, .int .i64 (netR p []).hi] wr) := hid (HN2.out.keep HW.out HZ2.out)
      have HW1 := hid (HW2.out.trans (HW.out.mono (Nat.le_of_lt HZ2.out)))
      have HZ := hid HW.out.size
      clear hbox hrep HO HW HB HN2 HW2 HB2 HR2
      obtain ⟨wa, rfl⟩ : ∃ wa : World, wa = wr := ⟨_, rfl⟩
      go_wp2_with fail
      go_loopw [9] (fun x wr => ∃ k : Nat, k ≤ nn ∧ x = .int .i64 k ∧ RowsB w2.heap.size q (bndsR p (Ls.take k)) wr ∧ BoxIs w1.heap.size #[.int .i64 (netR p (Ls.take k)).lo, .int .i64 (netR p (Ls.take k)).hi] wr ∧ Below w1.heap.size w1 wr ∧ w2.heap.size ≤ wr.heap.size) (fun x _ => nn - (intOf x).toNat)
      case atStart => exact ⟨0, by omega, rfl, by rw [List.take_zero]; exact HRB.out, by rw [List.take_zero]; exact HNB.out, HW1.out, HZ.out⟩
      case round =>
        clear HRB HNB HW1 HZ e2
        obtain ⟨k, hk, rfl, hrb, hnb, hw, hz⟩ := hrel
        have HRB := hid hrb; have HNB := hid hnb; have HW1 := hid hw; have HZ := hid hz
        have HB := hid (HB1.out.step (hw.mono HB1.out.size))
        clear hrb hnb hw hz
        by_cases hlt : k < nn
        · skip
          have hw1 : IntKind.i64.wrap ((k : Int) + 1) = (k : Int) + 1 := IntWalk.i64_in _ (by omega)
          obtain ⟨ds, hd1, hd2, hd3⟩ := HL.out.below HB.out.below
          have hkl : k < Ls.length := by have := HNL.out; omega
          obtain ⟨l, hlk⟩ : ∃ l, Ls[k]? = some l := ⟨_, List.getElem?_eq_getElem hkl⟩
          obtain ⟨d, hdk⟩ : ∃ d, ds[k]? = some d := ⟨_, List.getElem?_eq_getElem (by omega)⟩
          have HIL := hid (hd3 k d l hdk hlk)
          obtain ⟨b0, o0, rfl, hb0, hc0⟩ := hd1.2 k d hdk
          have c0 := hc0 0 (.slice d.1 d.2.1 d.2.2) rfl
          rw [Nat.mul_one, Nat.add_zero] at c0
          obtain ⟨dp, dn, dc⟩ := d
          have HIL : Hid (IntsAt wr dp dn l) := HIL
          have HTK : Hid (Ls.take (k + 1) = Ls.take k ++ [l]) := hid (by rw [List.take_add_one, hlk]; rfl)
          have hls := HLB.out l (List.mem_of_getElem? hlk)
          have HLO := hid (listed_bd HOK.out.loss hls)
          have hll := listed_len hls
          have hdn : dn ≤ 100 := by have h1 : dn = l.length := HIL.out.1; have := HOK.out.n4; omega
          have HPO := hid (pays_ok HOK.out.ots allT HLO.out)
          have HPE := hid (pays_every p tn HTN.out l)
          have HC : Hid (∀ V, Below wr.heap.size wr V → V.cell? ⟨b0, o0 + k, none⟩ = some (.slice dp dn dc)) := hid (fun V hV => (hV.cell (World.block_lt_of_cell? _ _ c0)).trans c0)
          clear hd1 hd2 hd3 hdk hlk hb0 hc0 c0
          go_upto_region 10 with fail
          refine wp_region_held_drew (S := fun V => Below wr.heap.size wr V) (by kernel_rfl) ((Below.refl _ _).drew) (fun hS => ?_)
          simp only [List.size_toArray, List.length_cons, List.length_nil, Nat.reduceAdd, Array.replicate_succ, Array.replicate_zero, List.push_toArray, List.nil_append, List.cons_append]
          refine tkH (i := 0) (v := ?_) (fun V hV => ?_) ?_
          rotate_left
          · have hBV := HB.out.step (hV.mono HB.out.size); have e0 := hBV.cell1 0 (v := .slice lp ln lc) rfl; have e1 := hBV.cell1 1 (v := .int .i64 p.reserve) rfl; have e2 := hBV.cell1 2 (v := .slice tp tn tc) rfl; have e3 := hBV.cell1 3 (v := .slice rp rn rc) rfl; go_simp
            try with_reducible rfl
          try simp only [Act.put, List.getElem_toArray, List.getElem_cons_zero, List.setIfInBounds_toArray, List.set_cons_zero, List.set_cons_succ]
          refine tkH (i := 1) (v := ?_) (fun V hV => ?_) ?_
          rotate_left
          · go_simp
            try with_reducible rfl
          try simp only [Act.put, List.getElem_toArray, List.getElem_cons_zero, List.getElem_cons_succ, List.setIfInBounds_toArray, List.set_cons_zero, List.set_cons_succ]
          refine tkH (i := 2) (v := ?_) (fun V hV => ?_) ?_
          rotate_left
          · go_simp
            try with_reducible rfl
          try simp only [Act.put, List.getElem_toArray, List.getElem_cons_zero, List.getElem_cons_succ, List.setIfInBounds_toArray, List.set_cons_zero, List.set_cons_succ]
          refine tkH (i := 3) (v := ?_) (fun V hV => ?_) ?_
          rotate_left
          · go_simp
            try with_reducible rfl
          try simp only [Act.put, List.getElem_toArray, List.getElem_cons_zero, List.getElem_cons_succ, List.setIfInBounds_toArray, List.set_cons_zero, List.set_cons_succ]
          refine tkH (i := 4) (v := ?_) (fun V hV => ?_) ?_
          rotate_left
          · have c0 := HC.out V hV; go_simp
            try with_reducible rfl
          try simp only [Act.put, List.getElem_toArray, List.getElem_cons_zero, List.getElem_cons_succ, List.setIfInBounds_toArray, List.set_cons_zero, List.set_cons_succ]
          refine tkH (i := 5) (v := ?_) (fun V hV => ?_) ?_
          rotate_left
          · have hBV := HB.out.step (hV.mono HB.out.size); have e0 := hBV.cell1 0 (v := .slice lp ln lc) rfl; have e1 := hBV.cell1 1 (v := .int .i64 p.reserve) rfl; have e2 := hBV.cell1 2 (v := .slice tp tn tc) rfl; have e3 := hBV.cell1 3 (v := .slice rp rn rc) rfl; go_simp
            try with_reducible rfl
          try simp only [Act.put, List.getElem_toArray, List.getElem_cons_zero, List.getElem_cons_succ, List.setIfInBounds_toArray, List.set_cons_zero, List.set_cons_succ]
          refine wpAnyH_ready (rs := [6]) (by kernel_rfl) (by simp) ?_
          refine AllReadyH.cons (o := _) rfl (fun K hK => ?_) AllReadyH.nil
          go_simp
          (with_reducible refine (HEV.out _).mono ?_)
          rintro e w6 ⟨rfl, hb⟩
          refine hK.out _ _ (hS.trans (hb.mono hS.size)) (fun hS => ?_)
          clear hK K
          try simp only [List.setIfInBounds_toArray, List.set_cons_zero, List.set_cons_succ]
          refine wpAnyH_ready (rs := [7]) (by kernel_rfl) (by simp) ?_
          refine AllReadyH.cons (o := _) rfl (fun K hK => ?_) AllReadyH.nil
          have hil := HIL.out.below hS
          have hpw := HP.out.below ((HB.out.step (hS.mono HB.out.size)).below)
          go_simp
          (with_reducible refine (pays_at p lp ln lc tp tn tc rp rn rc dp dn dc l (everyN tn) _ hpw hil htn5 hdn HOK.out.ots HLO.out HEB.out.1 HEB.out.2).mono ?_)
          have HG6 : Hid (wr.heap.size ≤ w6.heap.size) := hid hS.size
          rintro e w7 ⟨rfl, hi7, hb⟩
          rw [HPE.out] at hi7
          rw [HPE.out]
          have HI7 := hid hi7
          clear hi7 hil hpw
          refine hK.out _ _ (hS.trans (hb.mono hS.size)) (fun hS => ?_)
          clear hK K
          try simp only [List.setIfInBounds_toArray, List.set_cons_zero, List.set_cons_succ]
          refine tkH (i := 8) (v := ?_) (fun V hV => ?_) ?_
          rotate_left
          · go_simp
            try with_reducible rfl
          try simp only [Act.put, List.getElem_toArray, List.getElem_cons_zero, List.getElem_cons_succ, List.setIfInBounds_toArray, List.set_cons_zero, List.set_cons_succ]
          refine tkH (i := 9) (v := ?_) (fun V hV => ?_) ?_
          rotate_left
          · go_simp
            try with_reducible rfl
          try simp only [Act.put, List.getElem_toArray, List.getElem_cons_zero, List.getElem_cons_succ, List.setIfInBounds_toArray, List.set_cons_zero, List.set_cons_succ]
          refine tkH (i := 10) (v := ?_) (fun V hV => ?_) ?_
          rotate_left
          · go_simp
            try with_reducible rfl
          try simp only [Act.put, List.getElem_toArray, List.getElem_cons_zero, List.getElem_cons_succ, List.setIfInBounds_toArray, List.set_cons_zero, List.set_cons_succ]
          refine tkH (i := 11) (v := ?_) (fun V hV => ?_) ?_
          rotate_left
          · go_simp
            try with_reducible rfl
          try simp only [Act.put, List.getElem_toArray, List.getElem_cons_zero, List.getElem_cons_succ, List.setIfInBounds_toArray, List.set_cons_zero, List.set_cons_succ]
          refine tkH (i := 12) (v := ?_) (fun V hV => ?_) ?_
          rotate_left
          · go_simp
            try with_reducible rfl
          try simp only [Act.put, List.getElem_toArray, List.getElem_cons_zero, List.getElem_cons_succ, List.setIfInBounds_toArray, List.set_cons_zero, List.set_cons_succ]
          refine wpAnyH_done (by kernel_rfl) ?_ _
          have HW7 := hid hS
          have HB7 := hid (HB.out.step (hS.mono HB.out.size))
          clear hS
          obtain ⟨F, hF⟩ : ∃ f, payA p l = f := ⟨_, rfl⟩
          have HFF : Hid (∀ i, 0 ≤ F.1 i ∧ F.1 i ≤ 100000) := hid (fun i => by have h1 := HPO.out.1.lo i; have h2 := HPO.out.1.hi i; have h4 := HOK.out.n4; rw [show paysS p.ts allT l = F from hF] at h1 h2; omega)
          have HSN : Hid (∀ i, bndP p (Ls.take k ++ [l]) i = (widerR (bndP p (Ls.take k) i).1 (F.1 i), widerR (bndP p (Ls.take k) i).2 (keepsF p.ts F.1 i))) := hid (fun i => by rw [bndP_snoc, hF])
          have HNS : Hid (netR p (Ls.take k ++ [l]) = widerR (netR p (Ls.take k)) F.2) := hid (by rw [netR, bndR_snoc, hF]; rfl)
          rw [hF] at HI7 ⊢
          clear hF HPO HPE
          have HGL : Hid (0 < tn → ∀ g, q = some ⟨g, 0, none⟩ → g < wr.heap.size) := hid (fun h0 g hq => by obtain ⟨g2, e, _, hb⟩ := HRB.out (by simp [bndsR]; have := HTN.out; omega); rw [hq] at e; cases e; exact hb.1)
          obtain ⟨wo, rfl⟩ : ∃ wo : World, wo = wr := ⟨_, rfl⟩
          go_wp2_with fail
          go_loopw [12] (fun x wr => ∃ j : Nat, j ≤ tn ∧ x = .int .i64 j ∧ RowsB w2.heap.size q (midB p (Ls.take k) l j) wr ∧ Near (fun i => q = some ⟨i, 0, none⟩) w7 wr ∧ Below w2.heap.size w7 wr) (fun x _ => tn - (intOf x).toNat)
          case atStart => exact ⟨0, by omega, rfl, by rw [midB_zero]; exact HRB.out.below HW7.out, Near.refl _ _, Below.refl _ _⟩
          case round =>
            obtain ⟨j, hj, rfl, hrb, hn, hw⟩ := hrel
            have HRJ := hid hrb; have HNJ := hid hn; have HWJ := hid hw
            have HWJS : Hid (w2.heap.size ≤ wr.heap.size) := hid (Nat.le_trans (Nat.le_trans HZ.out HW7.out.size) hw.size)
            have HBJ := hid (HB7.out.step (hw.mono (by have := HB1.out.size; have := HZ2.out; omega)))
            clear hrb hn hw
            by_cases hlj : j < tn
            · skip
              obtain ⟨g, rfl, hg, hbx⟩ := HRJ.out (by rw [midB_len]; have := HTN.out; omega)
              have hgl := HGL.out (by omega) g rfl
              have hjp : j < p.ts.length := by have := HTN.out; omega
              have hrow := midB_get (p := p) (Ls := Ls.take k) (l := l) (k := j) hjp
              have HSJ := hid (HSN.out j)
              obtain ⟨r1, r2, hr⟩ : ∃ r1 r2, bndP p (Ls.take k) j = (r1, r2) := ⟨_, _, rfl⟩
              rw [hr] at hrow
              rw [hr] at HSJ
              have HX := hid hbx
              have HROW := hid hrow
              have HIJ := hid (HI7.out.kept fun a ha _ hlt => HNJ.out.block _ hlt (fun e => by cases ha; have h6 := HG6.out; injection e with e1; injection e1 with e2; have e3 : g = w6.heap.size + 1 := e2; omega))
              obtain ⟨b9, o9, e9, _, d9⟩ := HIJ.out.at hlj
              cases e9
              rw [ofF_at _ hlj, Nat.zero_add] at d9
              have HD9 : Hid (∀ V, Below wr.heap.size wr V → V.cell? ⟨w6.heap.size + 1, j, none⟩ = some (.int .i64 (F.1 j))) := hid (fun V hV => (hV.cell (World.block_lt_of_cell? _ _ d9)).trans d9)
              clear hbx hrow hr d9
              have hw2 : IntKind.i64.wrap ((j : Int) + 1) = (j : Int) + 1 := IntWalk.i64_in _ (by omega)
              go_upto_region 14 with fail
              refine wp_region_listed (S := fun l V => True ∧ (l.getD 24 true = false → Below wr.heap.size wr V)) (by kernel_rfl) (⟨trivial, fun _ => (Below.refl _ _).drew⟩) (fun hS => ?_)
              simp only [List.size_toArray, List.length_cons, List.length_nil, Nat.reduceAdd, Array.replicate_succ, Array.replicate_zero, List.push_toArray, List.nil_append, List.cons_append]
              refine anyL_take [] (i := 0) (v := ?_) rfl (by kernel_rfl) (by kernel_rfl) (by kernel_rfl) (fun _ _ _ h => h) (by kernel_rfl) (by kernel_rfl) (fun _ _ => and_congr Iff.rfl (imp_congr (getD_set_iff (by decide)) Iff.rfl)) (Or.inl ⟨by rfl, fun V hV => ?_⟩) (by assumption) ?_
              rotate_left
              · go_simp
                try with_reducible rfl
              try simp only [Act.put, List.getElem_toArray, List.getElem_cons_zero, List.setIfInBounds_toArray, List.set_cons_zero, List.set_cons_succ]
              refine anyL_take [] (i := 1) (v := ?_) rfl (by kernel_rfl) (by kernel_rfl) (by kernel_rfl) (fun _ _ _ h => h) (by kernel_rfl) (by kernel_rfl) (fun _ _ => and_congr Iff.rfl (imp_congr (getD_set_iff (by decide)) Iff.rfl)) (Or.inl ⟨by rfl, fun V hV => ?_⟩) (by assumption) ?_
              rotate_left
              · go_simp
                try with_reducible rfl
              try simp only [Act.put, List.getElem_toArray, List.getElem_cons_zero, List.getElem_cons_succ, List.setIfInBounds_toArray, List.set_cons_zero, List.set_cons_succ]
              refine anyL_take [] (i := 2) (v := ?_) rfl (by kernel_rfl) (by kernel_rfl) (by kernel_rfl) (fun _ _ _ h => h) (by kernel_rfl) (by kernel_rfl) (fun _ _ => and_congr Iff.rfl (imp_congr (getD_set_iff (by decide)) Iff.rfl)) (Or.inl ⟨by rfl, fun V hV => ?_⟩) (by assumption) ?_
              rotate_left
              · go_simp
                try with_reducible rfl
              try simp only [Act.put, List.getElem_toArray, List.getElem_cons_zero, List.getElem_cons_succ, List.setIfInBounds_toArray, List.set_cons_zero, List.set_cons_succ]
              refine anyL_take [] (i := 3) (v := ?_) rfl (by kernel_rfl) (by kernel_rfl) (by kernel_rfl) (fun _ _ _ h => h) (by kernel_rfl) (by kernel_rfl) (fun _ _ => and_congr Iff.rfl (imp_congr (getD_set_iff (by decide)) Iff.rfl)) (Or.inl ⟨by rfl, fun V hV => ?_⟩) (by assumption) ?_
              rotate_left
              · go_simp
                try with_reducible rfl
              try simp only [Act.put, List.getElem_toArray, List.getElem_cons_zero, List.getElem_cons_succ, List.setIfInBounds_toArray, List.set_cons_zero, List.set_cons_succ]
              refine anyL_take [] (i := 4) (v := ?_) rfl (by kernel_rfl) (by kernel_rfl) (by kernel_rfl) (fun _ _ _ h => h) (by kernel_rfl) (by kernel_rfl) (fun _ _ => and_congr Iff.rfl (imp_congr (getD_set_iff (by decide)) Iff.rfl)) (Or.inl ⟨by rfl, fun V hV => ?_⟩) (by assumption) ?_
              rotate_left
              · go_simp
                try with_reducible rfl
              try simp only [Act.put, List.getElem_toArray, List.getElem_cons_zero, List.getElem_cons_succ, List.setIfInBounds_toArray, List.set_cons_zero, List.set_cons_succ]
              refine anyL_take [] (i := 5) (v := ?_) rfl (by kernel_rfl) (by kernel_rfl) (by kernel_rfl) (fun _ _ _ h => h) (by kernel_rfl) (by kernel_rfl) (fun _ _ => and_congr Iff.rfl (imp_congr (getD_set_iff (by decide)) Iff.rfl)) (Or.inl ⟨by rfl, fun V hV => ?_⟩) (by assumption) ?_
              rotate_left
              · go_simp
                try with_reducible rfl
              try simp only [Act.put, List.getElem_toArray, List.getElem_cons_zero, List.getElem_cons_succ, List.setIfInBounds_toArray, List.set_cons_zero, List.set_cons_succ]
              refine anyL_take [24] (i := 6) (v := ?_) rfl (by kernel_rfl) (by kernel_rfl) (by kernel_rfl) (fun _ _ _ h => h) (by kernel_rfl) (by kernel_rfl) (fun _ _ => and_congr Iff.rfl (imp_congr (getD_set_iff (by decide)) Iff.rfl)) (Or.inl ⟨by rfl, fun V hV => ?_⟩) (by assumption) ?_
              rotate_left
              · obtain ⟨l, hn, hV⟩ := hV; have hV := hV.2 (hn 24 (by simp)); have hbv := HX.out.below hV; have ⟨k0, f0⟩ := (hbv).getB HROW.out (j := 0) (v := .int .i64 r1.lo) rfl; have ⟨k1, f1⟩ := (hbv).getB HROW.out (j := 1) (v := .int .i64 r1.hi) rfl; have ⟨k2, f2⟩ := (hbv).getB HROW.out (j := 2) (v := .int .i64 r2.lo) rfl; have ⟨k3, f3⟩ := (hbv).getB HROW.out (j := 3) (v := .int .i64 r2.hi) rfl; rw [Nat.add_zero] at k0 f0; go_simp
                try with_reducible rfl
              try simp only [Act.put, List.getElem_toArray, List.getElem_cons_zero, List.getElem_cons_succ, List.setIfInBounds_toArray, List.set_cons_zero, List.set_cons_succ]
              refine anyL_take [] (i := 7) (v := ?_) rfl (by kernel_rfl) (by kernel_rfl) (by kernel_rfl) (fun _ _ _ h => h) (by kernel_rfl) (by kernel_rfl) (fun _ _ => and_congr Iff.rfl (imp_congr (getD_set_iff (by decide)) Iff.rfl)) (Or.inl ⟨by rfl, fun V hV => ?_⟩) (by assumption) ?_
              rotate_left
              · go_simp
                try with_reducible rfl
              try simp only [Act.put, List.getElem_toArray, List.getElem_cons_zero, List.getElem_cons_succ, List.setIfInBounds_toArray, List.set_cons_zero, List.set_cons_succ]
              refine anyL_take [] (i := 8) (v := ?_) rfl (by kernel_rfl) (by kernel_rfl) (by kernel_rfl) (fun _ _ _ h => h) (by kernel_rfl) (by kernel_rfl) (fun _ _ => and_congr Iff.rfl (imp_congr (getD_set_iff (by decide)) Iff.rfl)) (Or.inl ⟨by rfl, fun V hV => ?_⟩) (by assumption) ?_
              rotate_left
              · go_simp
                try with_reducible rfl
              try simp only [Act.put, List.getElem_toArray, List.getElem_cons_zero, List.getElem_cons_succ, List.setIfInBounds_toArray, List.set_cons_zero, List.set_cons_succ]
              refine anyL_take [] (i := 9) (v := ?_) rfl (by kernel_rfl) (by kernel_rfl) (by kernel_rfl) (fun _ _ _ h => h) (by kernel_rfl) (by kernel_rfl) (fun _ _ => and_congr Iff.rfl (imp_congr (getD_set_iff (by decide)) Iff.rfl)) (Or.inl ⟨by rfl, fun V hV => ?_⟩) (by assumption) ?_
              rotate_left
              · go_simp
                try with_reducible rfl
              try simp only [Act.put, List.getElem_toArray, List.getElem_cons_zero, List.getElem_cons_succ, List.setIfInBounds_toArray, List.set_cons_zero, List.set_cons_succ]
              refine anyL_take [24] (i := 10) (v := ?_) rfl (by kernel_rfl) (by kernel_rfl) (by kernel_rfl) (fun _ _ _ h => h) (by kernel_rfl) (by kernel_rfl) (fun _ _ => and_congr Iff.rfl (imp_congr (getD_set_iff (by decide)) Iff.rfl)) (Or.inl ⟨by rfl, fun V hV => ?_⟩) (by assumption) ?_
              rotate_left
              · obtain ⟨l, hn, hV⟩ := hV; have hV := hV.2 (hn 24 (by simp)); have c0 := HD9.out V hV; go_simp
                try with_reducible rfl
              try simp only [Act.put, List.getElem_toArray, List.getElem_cons_zero, List.getElem_cons_succ, List.setIfInBounds_toArray, List.set_cons_zero, List.set_cons_succ]
              refine anyL_take [] (i := 12) (v := ?_) rfl (by kernel_rfl) (by kernel_rfl) (by kernel_rfl) (fun _ _ _ h => h) (by kernel_rfl) (by kernel_rfl) (fun _ _ => and_congr Iff.rfl (imp_congr (getD_set_iff (by decide)) Iff.rfl)) (Or.inl ⟨by rfl, fun V hV => ?_⟩) (by assumption) ?_
              rotate_left
              · go_simp
                try with_reducible rfl
              try simp only [Act.put, List.getElem_toArray, List.getElem_cons_zero, List.getElem_cons_succ, List.setIfInBounds_toArray, List.set_cons_zero, List.set_cons_succ]
              refine anyL_take [] (i := 13) (v := ?_) rfl (by kernel_rfl) (by kernel_rfl) (by kernel_rfl) (fun _ _ _ h => h) (by kernel_rfl) (by kernel_rfl) (fun _ _ => and_congr Iff.rfl (imp_congr (getD_set_iff (by decide)) Iff.rfl)) (Or.inl ⟨by rfl, fun V hV => ?_⟩) (by assumption) ?_
              rotate_left
              · go_simp
                try with_reducible rfl
              try simp only [Act.put, List.getElem_toArray, List.getElem_cons_zero, List.getElem_cons_succ, List.setIfInBounds_toArray, List.set_cons_zero, List.set_cons_succ]
              refine anyL_take [] (i := 14) (v := ?_) rfl (by kernel_rfl) (by kernel_rfl) (by kernel_rfl) (fun _ _ _ h => h) (by kernel_rfl) (by kernel_rfl) (fun _ _ => and_congr Iff.rfl (imp_congr (getD_set_iff (by decide)) Iff.rfl)) (Or.inl ⟨by rfl, fun V hV => ?_⟩) (by assumption) ?_
              rotate_left
              · go_simp
                try with_reducible rfl
              try simp only [Act.put, List.getElem_toArray, List.getElem_cons_zero, List.getElem_cons_succ, List.setIfInBounds_toArray, List.set_cons_zero, List.set_cons_succ]
              refine anyL_take [] (i := 15) (v := ?_) rfl (by kernel_rfl) (by kernel_rfl) (by kernel_rfl) (fun _ _ _ h => h) (by kernel_rfl) (by kernel_rfl) (fun _ _ => and_congr Iff.rfl (imp_congr (getD_set_iff (by decide)) Iff.rfl)) (Or.inl ⟨by rfl, fun V hV => ?_⟩) (by assumption) ?_
              rotate_left
              · go_simp
                try with_reducible rfl
              try simp only [Act.put, List.getElem_toArray, List.getElem_cons_zero, List.getElem_cons_succ, List.setIfInBounds_toArray, List.set_cons_zero, List.set_cons_succ]
              refine anyL_take [24] (i := 16) (v := ?_) rfl (by kernel_rfl) (by kernel_rfl) (by kernel_rfl) (fun _ _ _ h => h) (by kernel_rfl) (by kernel_rfl) (fun _ _ => and_congr Iff.rfl (imp_congr (getD_set_iff (by decide)) Iff.rfl)) (Or.inl ⟨by rfl, fun V hV => ?_⟩) (by assumption) ?_
              rotate_left
              · obtain ⟨l, hn, hV⟩ := hV; have hV := hV.2 (hn 24 (by simp)); have hbv := HX.out.below hV; have ⟨k0, f0⟩ := (hbv).getB HROW.out (j := 0) (v := .int .i64 r1.lo) rfl; have ⟨k1, f1⟩ := (hbv).getB HROW.out (j := 1) (v := .int .i64 r1.hi) rfl; have ⟨k2, f2⟩ := (hbv).getB HROW.out (j := 2) (v := .int .i64 r2.lo) rfl; have ⟨k3, f3⟩ := (hbv).getB HROW.out (j := 3) (v := .int .i64 r2.hi) rfl; rw [Nat.add_zero] at k0 f0; go_simp
                try with_reducible rfl
              try simp only [Act.put, List.getElem_toArray, List.getElem_cons_zero, List.getElem_cons_succ, List.setIfInBounds_toArray, List.set_cons_zero, List.set_cons_succ]
              refine anyL_take [24] (i := 17) (v := ?_) rfl (by kernel_rfl) (by kernel_rfl) (by kernel_rfl) (fun _ _ _ h => h) (by kernel_rfl) (by kernel_rfl) (fun _ _ => and_congr Iff.rfl (imp_congr (getD_set_iff (by decide)) Iff.rfl)) (Or.inl ⟨by rfl, fun V hV => ?_⟩) (by assumption) ?_
              rotate_left
              · obtain ⟨l, hn, hV⟩ := hV; have hV := hV.2 (hn 24 (by simp)); have hBV := HBJ.out.step (hV.mono HBJ.out.size); have e0 := hBV.cell1 0 (v := .slice lp ln lc) rfl; have e1 := hBV.cell1 1 (v := .int .i64 p.reserve) rfl; have e2 := hBV.cell1 2 (v := .slice tp tn tc) rfl; have e3 := hBV.cell1 3 (v := .slice rp rn rc) rfl; go_simp
                try with_reducible rfl
              try simp only [Act.put, List.getElem_toArray, List.getElem_cons_zero, List.getElem_cons_succ, List.setIfInBounds_toArray, List.set_cons_zero, List.set_cons_succ]
              refine anyL_take [] (i := 18) (v := ?_) rfl (by kernel_rfl) (by kernel_rfl) (by kernel_rfl) (fun _ _ _ h => h) (by kernel_rfl) (by kernel_rfl) (fun _ _ => and_congr Iff.rfl (imp_congr (getD_set_iff (by decide)) Iff.rfl)) (Or.inl ⟨by rfl, fun V hV => ?_⟩) (by assumption) ?_
              rotate_left
              · go_simp
                try with_reducible rfl
              try simp only [Act.put, List.getElem_toArray, List.getElem_cons_zero, List.getElem_cons_succ, List.setIfInBounds_toArray, List.set_cons_zero, List.set_cons_succ]
              refine anyL_take [] (i := 19) (v := ?_) rfl (by kernel_rfl) (by kernel_rfl) (by kernel_rfl) (fun _ _ _ h => h) (by kernel_rfl) (by kernel_rfl) (fun _ _ => and_congr Iff.rfl (imp_congr (getD_set_iff (by decide)) Iff.rfl)) (Or.inl ⟨by rfl, fun V hV => ?_⟩) (by assumption) ?_
              rotate_left
              · go_simp
                try with_reducible rfl
              try simp only [Act.put, List.getElem_toArray, List.getElem_cons_zero, List.getElem_cons_succ, List.setIfInBounds_toArray, List.set_cons_zero, List.set_cons_succ]
              refine anyL_one (i := 11) (o := _) (by kernel_rfl) rfl (fun K hK => ?_)
              go_simp
              (with_reducible refine (widerE_any r1 (F.1 j) _).mono ?_)
              rintro e v11 ⟨rfl, hb⟩
              have HV11 : Hid (Below wr.heap.size wr v11) := hid ((Below.refl wr.heap.size wr).drew.trans (hb.mono (Nat.le_refl _)))
              clear hS hb
              refine hK.out _ _ (⟨trivial, fun _ => HV11.out⟩) (fun hS => ?_)
              clear hK K
              try simp only [List.setIfInBounds_toArray, List.set_cons_zero, List.set_cons_succ]
              refine anyL_one (i := 20) (o := _) (by kernel_rfl) rfl (fun K hK => ?_)
              have hij := HIJ.out.below HV11.out
              have hpw := HP.out.below ((HBJ.out.step (HV11.out.mono HBJ.out.size)).below)
              go_simp
              (with_reducible refine (keepsR_any p lp ln lc tp tn tc rp rn rc (some ⟨w6.heap.size + 1, 0, none⟩) tn F.1 j _ hpw htn5 hlj hij HFF.out).mono ?_)
              rintro e v20 ⟨rfl, hb⟩
              have HV20 : Hid (Below wr.heap.size wr v20) := hid (HV11.out.trans (hb.mono HV11.out.size))
              clear hS hb hij hpw
              refine hK.out _ _ (⟨trivial, fun _ => HV20.out⟩) (fun hS => ?_)
              clear hK K
              try simp only [List.setIfInBounds_toArray, List.set_cons_zero, List.set_cons_succ]
              refine anyL_one (i := 21) (o := _) (by kernel_rfl) rfl (fun K hK => ?_)
              go_simp
              (with_reducible refine (widerE_any r2 (keepsF p.ts F.1 j) _).mono ?_)
              rintro e v21 ⟨rfl, hb⟩
              have HV21 : Hid (Below wr.heap.size wr v21) := hid (HV20.out.trans (hb.mono HV20.out.size))
              clear hS hb
              refine hK.out _ _ (⟨trivial, fun _ => HV21.out⟩) (fun hS => ?_)
              clear hK K
              try simp only [List.setIfInBounds_toArray, List.set_cons_zero, List.set_cons_succ]
              refine anyL_take [] (i := 22) (v := ?_) rfl (by kernel_rfl) (by kernel_rfl) (by kernel_rfl) (fun _ _ _ h => h) (by kernel_rfl) (by kernel_rfl) (fun _ _ => and_congr Iff.rfl (imp_congr (getD_set_iff (by decide)) Iff.rfl)) (Or.inl ⟨by rfl, fun V hV => ?_⟩) (by assumption) ?_
              rotate_left
              · go_simp
                try with_reducible rfl
              try simp only [Act.put, List.getElem_toArray, List.getElem_cons_zero, List.getElem_cons_succ, List.setIfInBounds_toArray, List.set_cons_zero, List.set_cons_succ]
              refine anyL_take [] (i := 23) (v := ?_) rfl (by kernel_rfl) (by kernel_rfl) (by kernel_rfl) (fun _ _ _ h => h) (by kernel_rfl) (by kernel_rfl) (fun _ _ => and_congr Iff.rfl (imp_congr (getD_set_iff (by decide)) Iff.rfl)) (Or.inl ⟨by rfl, fun V hV => ?_⟩) (by assumption) ?_
              rotate_left
              · go_simp
                try with_reducible rfl
              try simp only [Act.put, List.getElem_toArray, List.getElem_cons_zero, List.getElem_cons_succ, List.setIfInBounds_toArray, List.set_cons_zero, List.set_cons_succ]
              refine anyL_one (i := 24) (o := _) (by kernel_rfl) rfl (fun K hK => ?_)
              have hbv := HX.out.below HV21.out
              have ⟨k0, f0⟩ := (hbv).getB HROW.out (j := 0) (v := .int .i64 r1.lo) rfl; have ⟨k1, f1⟩ := (hbv).getB HROW.out (j := 1) (v := .int .i64 r1.hi) rfl; have ⟨k2, f2⟩ := (hbv).getB HROW.out (j := 2) (v := .int .i64 r2.lo) rfl; have ⟨k3, f3⟩ := (hbv).getB HROW.out (j := 3) (v := .int .i64 r2.hi) rfl; rw [Nat.add_zero] at k0 f0
              have hset := hbv.setB (i := j) (by rw [midB_len]; exact hjp) (widerR r1 (F.1 j), widerR r2 (keepsF p.ts F.1 j))
              rw [← HSJ.out, midB_succ hjp] at hset
              rw [HSJ.out] at hset
              obtain ⟨V24, hV24⟩ : ∃ V, ((((v21.setCell ⟨g, j * 4, none⟩ (.int .i64 (widerR r1 (F.1 j)).lo)).setCell ⟨g, j * 4 + 1, none⟩ (.int .i64 (widerR r1 (F.1 j)).hi)).setCell ⟨g, j * 4 + 2, none⟩ (.int .i64 (widerR r2 (keepsF p.ts F.1 j)).lo)).setCell ⟨g, j * 4 + 3, none⟩ (.int .i64 (widerR r2 (keepsF p.ts F.1 j)).hi)) = V := ⟨_, rfl⟩
              rw [hV24] at hset
              have hn24 : Near (fun i => some (⟨g, 0, none⟩ : Addr) = some ⟨i, 0, none⟩) w7 V24 := by rw [← hV24]; exact (((((HNJ.out.trans (near_below HV21.out)).setCell (p := ⟨g, j * 4, none⟩) (fun _ => rfl) _).setCell (p := ⟨g, j * 4 + 1, none⟩) (fun _ => rfl) _).setCell (p := ⟨g, j * 4 + 2, none⟩) (fun _ => rfl) _).setCell (p := ⟨g, j * 4 + 3, none⟩) (fun _ => rfl) _)
              have hw24 : Below w2.heap.size w7 V24 := by rw [← hV24]; exact (((((HWJ.out.trans (HV21.out.mono HWJS.out)).setCell (p := ⟨g, j * 4, none⟩) hg _).setCell (p := ⟨g, j * 4 + 1, none⟩) hg _).setCell (p := ⟨g, j * 4 + 2, none⟩) hg _).setCell (p := ⟨g, j * 4 + 3, none⟩) hg _)
              have HX24 := hid hset; have HN24 := hid hn24; have HW24 := hid hw24
              go_simp
              try rw [hV24]
              clear hset hn24 hw24 hV24 k0 k1 k2 k3 f0 f1 f2 f3 hbv hS
              refine hK.out _ _ (⟨trivial, fun h => absurd h (by decide)⟩) (fun hS => ?_)
              clear hK K
              try simp only [List.setIfInBounds_toArray, List.set_cons_zero, List.set_cons_succ]
              refine anyL_done (by kernel_rfl) ?_ _
              clear hS
              go_wp2_with fail
              go_roundw
              case rel => exact ⟨j + 1, by omega, by go_num, fun _ => ⟨g, rfl, hg, HX24.out⟩, HN24.out, HW24.out⟩
              case measure => simp [intOf]; omega
            · skip
              obtain rfl : tn = j := by omega
              have HRE : Hid (RowsB w2.heap.size q (bndsR p (Ls.take (k + 1))) wr) := hid (by have h := HRJ.out; rw [HTN.out, midB_end, ← HTK.out] at h; exact h)
              have HNE := hid ((HNB.out.below HW7.out).keep HWJ.out HZ2.out)
              have n0 := (HNE.out.2 0 _ rfl).1; have n1 := (HNE.out.2 1 _ rfl).1
              go_wp2_with fail
              (with_reducible refine (widerE_any (netR p (Ls.take k)) F.2 _).mono ?_)
              rintro e w15 ⟨rfl, hb⟩
              clear n0 n1
              have hne := HNE.out.below hb
              have n0 := (hne.2 0 _ rfl).1; have n1 := (hne.2 1 _ rfl).1; have m0 := (hne.2 0 _ rfl).2; have m1 := (hne.2 1 _ rfl).2
              have hset := hne.setRng (q := widerR (netR p (Ls.take k)) F.2)
              have hN := ((Near.refl (fun i => i = w1.heap.size) w15).setCell (p := ⟨w1.heap.size, 0, none⟩) (fun _ => rfl) (.int .i64 (widerR (netR p (Ls.take k)) F.2).lo)).setCell (p := ⟨w1.heap.size, 1, none⟩) (fun _ => rfl) (.int .i64 (widerR (netR p (Ls.take k)) F.2).hi)
              have hre := (HRE.out.below hb).far hN (fun i h => by have := HZ2.out; omega)
              have hbb := ((((HW1.out.trans (HW7.out.mono HW1.out.size)).trans (HWJ.out.mono (Nat.le_of_lt HZ2.out))).trans (hb.mono (Nat.le_trans (Nat.le_of_lt HZ2.out) HWJS.out))).setCell (p := ⟨w1.heap.size, 0, none⟩) (Nat.le_refl _) (.int .i64 (widerR (netR p (Ls.take k)) F.2).lo)).setCell (p := ⟨w1.heap.size, 1, none⟩) (Nat.le_refl _) (.int .i64 (widerR (netR p (Ls.take k)) F.2).hi)
              have HSET := hid hset; have HREE := hid hre; have HBB := hid hbb; have HSZ : Hid (w2.heap.size ≤ w15.heap.size) := hid (Nat.le_trans HWJS.out hb.size)
              clear hset hre hbb hN hne hb
              go_wp2_with fail
              go_roundw
              case rel => exact ⟨k + 1, by omega, by go_num, HREE.out, by rw [HTK.out, HNS.out]; exact HSET.out, HBB.out, by simpa [World.setCell] using HSZ.out⟩
              case measure => simp [intOf]; omega
        · skip
          have hkn : nn = k := by omega
          subst hkn
          have HLN : Hid (Ls.take nn = Ls) := hid (List.take_of_length_le (by have := HNL.out; omega))
          rw [HLN.out] at HRB HNB
          have HRW := hid (HR1.out.keep HW1.out (by have := HB1.out.size; omega))
          go_upto_region 16 with fail
          refine wp_region_listed (S := fun l V => True ∧ (l.getD 3 true = false → Below wr.heap.size wr V)) (by kernel_rfl) (⟨trivial, fun _ => (Below.refl _ _).drew⟩) (fun hS => ?_)
          simp only [List.size_toArray, List.length_cons, List.length_nil, Nat.reduceAdd, Array.replicate_succ, Array.replicate_zero, List.push_toArray, List.nil_append, List.cons_append]
          refine anyL_take [] (i := 0) (v := ?_) rfl (by kernel_rfl) (by kernel_rfl) (by kernel_rfl) (fun _ _ _ h => h) (by kernel_rfl) (by kernel_rfl) (fun _ _ => and_congr Iff.rfl (imp_congr (getD_set_iff (by decide)) Iff.rfl)) (Or.inl ⟨by rfl, fun V hV => ?_⟩) (by assumption) ?_
          rotate_left
          · go_simp
            try with_reducible rfl
          try simp only [Act.put, List.getElem_toArray, List.getElem_cons_zero, List.setIfInBounds_toArray, List.set_cons_zero, List.set_cons_succ]
          refine anyL_take [3] (i := 1) (v := ?_) rfl (by kernel_rfl) (by kernel_rfl) (by kernel_rfl) (fun _ _ _ h => h) (by kernel_rfl) (by kernel_rfl) (fun _ _ => and_congr Iff.rfl (imp_congr (getD_set_iff (by decide)) Iff.rfl)) (Or.inl ⟨by rfl, fun V hV => ?_⟩) (by assumption) ?_
          rotate_left
          · obtain ⟨l, hn, hV⟩ := hV; have hnb := HNB.out.below (hV.2 (hn 3 (by simp))); have n0 := (hnb.2 0 _ rfl).1; have n1 := (hnb.2 1 _ rfl).1; go_simp
            try with_reducible rfl
          try simp only [Act.put, List.getElem_toArray, List.getElem_cons_zero, List.getElem_cons_succ, List.setIfInBounds_toArray, List.set_cons_zero, List.set_cons_succ]
          refine anyL_take [] (i := 2) (v := ?_) rfl (by kernel_rfl) (by kernel_rfl) (by kernel_rfl) (fun _ _ _ h => h) (by kernel_rfl) (by kernel_rfl) (fun _ _ => and_congr Iff.rfl (imp_congr (getD_set_iff (by decide)) Iff.rfl)) (Or.inl ⟨by rfl, fun V hV => ?_⟩) (by assumption) ?_
          rotate_left
          · go_simp
            try with_reducible rfl
          try simp only [Act.put, List.getElem_toArray, List.getElem_cons_zero, List.getElem_cons_succ, List.setIfInBounds_toArray, List.set_cons_zero, List.set_cons_succ]
          refine anyL_one (i := 3) (o := _) (by kernel_rfl) rfl (fun K hK => ?_)
          have y0 := (HRW.out.2 0 (.int .i64 0) rfl).1; have y1 := (HRW.out.2 1 (.int .i64 0) rfl).1; have g0 := (HRW.out.2 0 (.int .i64 0) rfl).2; have g1 := (HRW.out.2 1 (.int .i64 0) rfl).2
          have HRF := hid ((HRW.out.put (j := 0) (.int .i64 (netR p Ls).lo)).put (j := 1) (.int .i64 (netR p Ls).hi))
          have HNF := hid (((Near.refl (fun i => i = w.heap.size + 1) wr).setCell (p := ⟨w.heap.size + 1, 0, none⟩) (fun _ => rfl) (.int .i64 (netR p Ls).lo)).setCell (p := ⟨w.heap.size + 1, 1, none⟩) (fun _ => rfl) (.int .i64 (netR p Ls).hi))
          clear hS
          go_simp
          generalize ((wr.setCell ⟨w.heap.size + 1, 0, none⟩ (.int .i64 (netR p Ls).lo)).setCell ⟨w.heap.size + 1, 1, none⟩ (.int .i64 (netR p Ls).hi)) = W9 at HRF HNF ⊢
          clear y0 y1 g0 g1
          refine hK.out _ _ (⟨trivial, fun h => absurd h (by decide)⟩) (fun hS => ?_)
          clear hK K
          try simp only [List.setIfInBounds_toArray, List.set_cons_zero, List.set_cons_succ]
          refine anyL_done (by kernel_rfl) ?_ _
          go_wp2_with fail
          have x0 := (HRF.out.2 0 (.int .i64 (netR p Ls).lo) rfl).1; have x1 := (HRF.out.2 1 (.int .i64 (netR p Ls).hi) rfl).1
          refine bodyPost_ret (v := .tuple #[.slice q tn c, .agg #[.int .i64 (netR p Ls).lo, .int .i64 (netR p Ls).hi]]) (by simp [results, Try.f32, go_sem, x0, x1]) rfl ?_
          have hbw := (HB1.out.below.trans (HW1.out.mono HB1.out.below.size))
          have hr := (HRB.out).far HNF.out (fun i h => by have := HZ2.out; have := HB1.out.size; omega)
          refine ⟨q, c, rfl, ?_, ?_, (hbw.trans (HNF.out.below hbw.size (fun k h1 h2 => by omega))).drew⟩
          · by_cases h0 : tn = 0
            · subst h0; exact ⟨by rw [bndsR_len]; exact HTN.out, fun i c hi => by have := (List.getElem?_eq_some_iff.1 hi).1; rw [bndsR_len, ← HTN.out] at this; omega⟩
            · obtain ⟨gg, rfl, _, hbx⟩ := hr (by rw [bndsR_len, ← HTN.out]; omega)
              have h9 := box_rows cellsB_len hbx
              rw [bndsR_len, ← HTN.out] at h9
              exact h9.below (Below.refl _ _).drew
          · intro a ha h0
            obtain ⟨gg, e9, h9, _⟩ := hr (by rw [bndsR_len, ← HTN.out]; omega)
            rw [e9] at ha; cases ha
            have := HZ2.out; have := HB1.out.size; show w.heap.size ≤ gg; omega
end Go.Proofs.Ytaioobhblfnlaaa
