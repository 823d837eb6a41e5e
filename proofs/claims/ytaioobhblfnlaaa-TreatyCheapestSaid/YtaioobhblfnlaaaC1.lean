/- Package hailstoneref10: the cheapest set of treaties (Cheapest). Condition: a sound programme. -/
import Derived.Test.YtaioobhblfnlaaaP19
namespace Go.Proofs.Ytaioobhblfnlaaa
open Go.RowKit

def isC (p : Prg) (k : Nat) : Bool := setB p.ts (bitsL (k : Nat)) && decide ((keptR p (bitB (k : Nat))).hi ≤ p.reserve)
def prC (p : Prg) (k : Nat) : Int := priceG (bitB (k : Nat)) 0 p.ts
def bestO : Option Nat → Nat
  | none => 0
  | some b => b
theorem bits_len (m : Int) : (bitsL m).length ≤ 12 := by
  have h : ∀ k, (bitsTo m k).length ≤ k := fun k => by
    induction k with
    | zero => simp [bitsTo]
    | succ k ih => rw [bitsTo_succ, List.length_append]; split <;> simp <;> omega
  exact h 12
theorem field55 (a b : Int) (V : World) : (Instr.field 55 (.agg #[.int .i64 a, .int .i64 b]) 1).run Try.prog V = .ok (.int .i64 b) V := by kernel_rfl

set_option maxRecDepth 100000 in
set_option maxHeartbeats 16000000 in
theorem cheapestR_any (p : Prg) (lp : Option Addr) (ln lc : Nat) (tp : Option Addr) (tn tc : Nat) (rp : Option Addr) (rn rc : Nat) (w : World) (hp : PrgAt w p lp ln tp tn rp rn) (ok : OkP p) :
    Calls Try.prog 41 #[.agg #[.slice lp ln lc, .int .i64 p.reserve, .slice tp tn tc, .slice rp rn rc]] w fun e w' => e = .returned (.tuple #[.int .i64 (bestO (cheapR p) : Nat), .bool (cheapR p).isSome]) ∧ Below w.heap.size w w' := by
  have htn5 : tn ≤ 5 := by rw [hp.t.1]; exact ok.m5
  have HTN := hid hp.t.1
  have HOK := hid ok
  have HEV := hid (fun W => every_any p lp ln lc tp tn tc rp rn rc W (by omega))
  have HBT := hid (fun (k : Nat) W (hk : k < 4096) => bits_any (k : Int) W (by omega) (by omega))
  have HST := hid (fun (k : Nat) q m c W (hW : Below w.heap.size w W) (hl : IntsAt W q m (bitsL (k : Nat))) => isSet_any p lp ln lc tp tn tc rp rn rc q m c (bitsL (k : Nat)) W (hp.below hW) hl htn5 (by have := hl.1; have := bits_len (k : Nat); omega))
  have HKP := hid (fun (k : Nat) W (hk : k < 4096) (hW : Below w.heap.size w W) => keptR_any p lp ln lc tp tn tc rp rn rc (k : Int) W (hp.below hW) ok (by omega) (by omega))
  have HPR := hid (fun (k : Nat) W (hk : k < 4096) (hW : Below w.heap.size w W) => price_any p lp ln lc tp tn tc rp rn rc (k : Int) W (hp.below hW) htn5 (by omega) (by omega) ok.prices)
  obtain ⟨M, hM, hM1, hM2, hM3⟩ := pow_facts (show tn ≤ 9 by omega)
  have HE : Hid (everyN tn = (M : Int) - 1) := hid (by rw [everyN, hM]; omega)
  have hM5 : M ≤ 512 := by have : 2 ^ tn ≤ 2 ^ 9 := Nat.pow_le_pow_right (by decide) (by omega); omega
  have HCR : Hid (cheapR p = chG (isC p) (prC p) 0 (M - 0) none) := hid (by rw [Nat.sub_zero, ← hM, hp.t.1]; rfl)
  have HMT : Hid (M = 2 ^ p.ts.length) := hid (by rw [← hp.t.1, hM])
  rw [HE.out] at HEV
  clear hp ok hM
  have H0 : Hid (Boxed1 w #[.slice lp ln lc, .int .i64 p.reserve, .slice tp tn tc, .slice rp rn rc] 26 (w.alloc (.cells #[.slice lp ln lc, .int .i64 p.reserve, .slice tp tn tc, .slice rp rn rc] 26))) := hid (Boxed1.start _ _ _)
  go_enter Try.func41, Try.ntmps41
  go_wp2_with fail
  go_loopw [4, 5, 6] (fun a b x wr => ∃ (k : Nat) (s : Option Nat), k ≤ M ∧ x = .int .i64 k ∧ a = .int .i64 (bestO s : Nat) ∧ b = .bool s.isSome ∧ (∀ y, s = some y → y < k) ∧ Boxed1 w #[.slice lp ln lc, .int .i64 p.reserve, .slice tp tn tc, .slice rp rn rc] 26 wr ∧ chG (isC p) (prC p) k (M - k) s = cheapR p) (fun _ _ x _ => M + 1 - (intOf x).toNat)
  case atStart => exact ⟨0, none, by omega, rfl, rfl, rfl, (fun y hy => by cases hy), H0.out, HCR.out.symm⟩
  case round =>
    clear H0 HCR
    obtain ⟨k, s, hk, rfl, rfl, rfl, hs, hb, hr⟩ := hrel
    have HS := hid hs; have HB := hid hb; have HR := hid hr
    clear hs hr hb
    have e0 := HB.out.cell 0 (v := .slice lp ln lc) rfl; have e1 := HB.out.cell 1 (v := .int .i64 p.reserve) rfl; have e2 := HB.out.cell 2 (v := .slice tp tn tc) rfl; have e3 := HB.out.cell 3 (v := .slice rp rn rc) rfl
    go_wp2_with fail
    (with_reducible refine (HEV.out _).mono ?_)
    rintro e w1 ⟨rfl, hb⟩
    have HB1 := hid (HB.out.step hb)
    clear e0 e1 e2 e3 hb HB
    by_cases hlt : k < M
    · skip
      have hle : (k : Int) ≤ (M : Int) - 1 := by omega
      have hk4 : k < 4096 := by omega
      have hw1 : IntKind.i64.wrap ((k : Int) + 1) = (k : Int) + 1 := IntWalk.i64_in _ (by omega)
      have HGO := hid (chG_go (isC p) (prC p) k M s hlt)
      rw [HR.out] at HGO
      go_upto_region 5 with fail
      refine wp_region_held_drew (S := fun V => Boxed1 w #[.slice lp ln lc, .int .i64 p.reserve, .slice tp tn tc, .slice rp rn rc] 26 V) (by kernel_rfl) (HB1.out.drew) (fun hS => ?_)
      simp only [List.size_toArray, List.length_cons, List.length_nil, Nat.reduceAdd, Array.replicate_succ, Array.replicate_zero, List.push_toArray, List.nil_append, List.cons_append]
      refine tkH (i := 0) (v := ?_) (fun V hV => ?_) ?_
      rotate_left
      · have e0 := hV.cell 0 (v := .slice lp ln lc) rfl; have e1 := hV.cell 1 (v := .int .i64 p.reserve) rfl; have e2 := hV.cell 2 (v := .slice tp tn tc) rfl; have e3 := hV.cell 3 (v := .slice rp rn rc) rfl; go_simp
        try with_reducible rfl
      try simp only [Act.put, List.getElem_toArray, List.getElem_cons_zero, List.setIfInBounds_toArray, List.set_cons_zero, List.set_cons_succ]
      refine tkH (i := 1) (v := ?_) (fun V hV => ?_) ?_
      rotate_left
      · go_simp
        try with_reducible rfl
      try simp only [Act.put, List.getElem_toArray, List.getElem_cons_zero, List.getElem_cons_succ, List.setIfInBounds_toArray, List.set_cons_zero, List.set_cons_succ]
      refine wpAnyH_ready (rs := [2]) (by kernel_rfl) (by simp) ?_
      refine AllReadyH.cons (o := _) rfl (fun K hK => ?_) AllReadyH.nil
      go_simp
      (with_reducible refine (HBT.out k _ hk4).mono ?_)
      rintro e w2 ⟨v2, rfl, ho2, hb⟩
      obtain ⟨q2, c2, rfl, hi2⟩ := ho2.slice
      clear ho2
      obtain ⟨N2, hN2⟩ : ∃ n, (bitsL (k : Nat)).length = n := ⟨_, rfl⟩
      rw [hN2] at hi2 ⊢
      have HI2 := hid hi2
      clear hi2 hN2
      refine hK.out _ _ (hS.step hb) (fun hS => ?_)
      clear hK K
      try simp only [List.setIfInBounds_toArray, List.set_cons_zero, List.set_cons_succ]
      refine wpAnyH_ready (rs := [3]) (by kernel_rfl) (by simp) ?_
      refine AllReadyH.cons (o := _) rfl (fun K hK => ?_) AllReadyH.nil
      go_simp
      (with_reducible refine (HST.out k q2 N2 c2 _ hS.below HI2.out).mono ?_)
      rintro e w3 ⟨rfl, hb⟩
      refine hK.out _ _ (hS.step hb) (fun hS => ?_)
      clear hK K
      try simp only [List.setIfInBounds_toArray, List.set_cons_zero, List.set_cons_succ]
      refine tkH (i := 4) (v := ?_) (fun V hV => ?_) ?_
      rotate_left
      · go_simp
        try with_reducible rfl
      try simp only [Act.put, List.getElem_toArray, List.getElem_cons_zero, List.getElem_cons_succ, List.setIfInBounds_toArray, List.set_cons_zero, List.set_cons_succ]
      refine tkH (i := 5) (v := ?_) (fun V hV => ?_) ?_
      rotate_left
      · go_simp
        try with_reducible rfl
      try simp only [Act.put, List.getElem_toArray, List.getElem_cons_zero, List.getElem_cons_succ, List.setIfInBounds_toArray, List.set_cons_zero, List.set_cons_succ]
      refine tkH (i := 6) (v := ?_) (fun V hV => ?_) ?_
      rotate_left
      · go_simp
        try with_reducible rfl
      try simp only [Act.put, List.getElem_toArray, List.getElem_cons_zero, List.getElem_cons_succ, List.setIfInBounds_toArray, List.set_cons_zero, List.set_cons_succ]
      refine tkH (i := 7) (v := ?_) (fun V hV => ?_) ?_
      rotate_left
      · go_simp
        try with_reducible rfl
      try simp only [Act.put, List.getElem_toArray, List.getElem_cons_zero, List.getElem_cons_succ, List.setIfInBounds_toArray, List.set_cons_zero, List.set_cons_succ]
      refine tkH (i := 8) (v := ?_) (fun V hV => ?_) ?_
      rotate_left
      · go_simp
        try with_reducible rfl
      try simp only [Act.put, List.getElem_toArray, List.getElem_cons_zero, List.getElem_cons_succ, List.setIfInBounds_toArray, List.set_cons_zero, List.set_cons_succ]
      refine wpAnyH_done (by kernel_rfl) ?_ _
      have HB3 := hid hS
      clear hS
      cases hsb : setB p.ts (bitsL (k : Nat))
      · skip
        go_upto_region 6 with fail
        refine wp_region_held_drew (S := fun V => Boxed1 w #[.slice lp ln lc, .int .i64 p.reserve, .slice tp tn tc, .slice rp rn rc] 26 V) (by kernel_rfl) (HB3.out.drew) (fun hS => ?_)
        simp only [List.size_toArray, List.length_cons, List.length_nil, Nat.reduceAdd, Array.replicate_succ, Array.replicate_zero, List.push_toArray, List.nil_append, List.cons_append]
        refine tkH (i := 0) (v := ?_) (fun V hV => ?_) ?_
        rotate_left
        · go_simp
          try with_reducible rfl
        try simp only [Act.put, List.getElem_toArray, List.getElem_cons_zero, List.setIfInBounds_toArray, List.set_cons_zero, List.set_cons_succ]
        refine tkH (i := 1) (v := ?_) (fun V hV => ?_) ?_
        rotate_left
        · go_simp
          try with_reducible rfl
        try simp only [Act.put, List.getElem_toArray, List.getElem_cons_zero, List.getElem_cons_succ, List.setIfInBounds_toArray, List.set_cons_zero, List.set_cons_succ]
        refine tkH (i := 2) (v := ?_) (fun V hV => ?_) ?_
        rotate_left
        · go_simp
          try with_reducible rfl
        try simp only [Act.put, List.getElem_toArray, List.getElem_cons_zero, List.getElem_cons_succ, List.setIfInBounds_toArray, List.set_cons_zero, List.set_cons_succ]
        refine tkU (i := 3) ?_
        try simp only [Act.put, List.getElem_toArray, List.getElem_cons_zero, List.getElem_cons_succ, List.setIfInBounds_toArray, List.set_cons_zero, List.set_cons_succ]
        refine tkU (i := 4) ?_
        try simp only [Act.put, List.getElem_toArray, List.getElem_cons_zero, List.getElem_cons_succ, List.setIfInBounds_toArray, List.set_cons_zero, List.set_cons_succ]
        refine tkU (i := 5) ?_
        try simp only [Act.put, List.getElem_toArray, List.getElem_cons_zero, List.getElem_cons_succ, List.setIfInBounds_toArray, List.set_cons_zero, List.set_cons_succ]
        refine tkU (i := 6) ?_
        try simp only [Act.put, List.getElem_toArray, List.getElem_cons_zero, List.getElem_cons_succ, List.setIfInBounds_toArray, List.set_cons_zero, List.set_cons_succ]
        refine tkU (i := 7) ?_
        try simp only [Act.put, List.getElem_toArray, List.getElem_cons_zero, List.getElem_cons_succ, List.setIfInBounds_toArray, List.set_cons_zero, List.set_cons_succ]
        refine tkU (i := 8) ?_
        try simp only [Act.put, List.getElem_toArray, List.getElem_cons_zero, List.getElem_cons_succ, List.setIfInBounds_toArray, List.set_cons_zero, List.set_cons_succ]
        refine tkU (i := 9) ?_
        try simp only [Act.put, List.getElem_toArray, List.getElem_cons_zero, List.getElem_cons_succ, List.setIfInBounds_toArray, List.set_cons_zero, List.set_cons_succ]
        refine tkH (i := 10) (v := ?_) (fun V hV => ?_) ?_
        rotate_left
        · go_simp
          try with_reducible rfl
        try simp only [Act.put, List.getElem_toArray, List.getElem_cons_zero, List.getElem_cons_succ, List.setIfInBounds_toArray, List.set_cons_zero, List.set_cons_succ]
        refine wpAnyH_done (by kernel_rfl) ?_ _
        have HB6 := hid hS
        clear hS
        have HNX : Hid (chG (isC p) (prC p) (k + 1) (M - (k + 1)) s = cheapR p) := hid (by have h := HGO.out; rw [if_neg (by rw [isC, hsb]; simp)] at h; exact h.symm)
        go_wp2_with fail
        go_roundw
        case rel => exact ⟨k + 1, s, by omega, by go_num, rfl, rfl, (fun y hy => by have := HS.out y hy; omega), HB6.out, HNX.out⟩
        case measure => simp [intOf]; omega
      · skip
        obtain ⟨kl, hkl⟩ : ∃ z, (keptR p (bitB (k : Nat))).lo = z := ⟨_, rfl⟩
        obtain ⟨kh, hkh⟩ : ∃ z, (keptR p (bitB (k : Nat))).hi = z := ⟨_, rfl⟩
        have HKL := hid hkl; have HKH := hid hkh
        have HIS : Hid (isC p k = decide (kh ≤ p.reserve)) := hid (by rw [isC, hsb, hkh]; rfl)
        clear hsb hkl hkh
        go_upto_region 6 with fail
        refine wp_region_held_drew (S := fun V => Boxed1 w #[.slice lp ln lc, .int .i64 p.reserve, .slice tp tn tc, .slice rp rn rc] 26 V) (by kernel_rfl) (HB3.out.drew) (fun hS => ?_)
        simp only [List.size_toArray, List.length_cons, List.length_nil, Nat.reduceAdd, Array.replicate_succ, Array.replicate_zero, List.push_toArray, List.nil_append, List.cons_append]
        refine tkH (i := 0) (v := ?_) (fun V hV => ?_) ?_
        rotate_left
        · go_simp
          try with_reducible rfl
        try simp only [Act.put, List.getElem_toArray, List.getElem_cons_zero, List.setIfInBounds_toArray, List.set_cons_zero, List.set_cons_succ]
        refine tkH (i := 1) (v := ?_) (fun V hV => ?_) ?_
        rotate_left
        · go_simp
          try with_reducible rfl
        try simp only [Act.put, List.getElem_toArray, List.getElem_cons_zero, List.getElem_cons_succ, List.setIfInBounds_toArray, List.set_cons_zero, List.set_cons_succ]
        refine tkH (i := 2) (v := ?_) (fun V hV => ?_) ?_
        rotate_left
        · go_simp
          try with_reducible rfl
        try simp only [Act.put, List.getElem_toArray, List.getElem_cons_zero, List.getElem_cons_succ, List.setIfInBounds_toArray, List.set_cons_zero, List.set_cons_succ]
        refine tkH (i := 3) (v := ?_) (fun V hV => ?_) ?_
        rotate_left
        · have e0 := hV.cell 0 (v := .slice lp ln lc) rfl; have e1 := hV.cell 1 (v := .int .i64 p.reserve) rfl; have e2 := hV.cell 2 (v := .slice tp tn tc) rfl; have e3 := hV.cell 3 (v := .slice rp rn rc) rfl; go_simp
          try with_reducible rfl
        try simp only [Act.put, List.getElem_toArray, List.getElem_cons_zero, List.getElem_cons_succ, List.setIfInBounds_toArray, List.set_cons_zero, List.set_cons_succ]
        refine tkH (i := 4) (v := ?_) (fun V hV => ?_) ?_
        rotate_left
        · go_simp
          try with_reducible rfl
        try simp only [Act.put, List.getElem_toArray, List.getElem_cons_zero, List.getElem_cons_succ, List.setIfInBounds_toArray, List.set_cons_zero, List.set_cons_succ]
        refine tkH (i := 7) (v := ?_) (fun V hV => ?_) ?_
        rotate_left
        · go_simp
          try with_reducible rfl
        try simp only [Act.put, List.getElem_toArray, List.getElem_cons_zero, List.getElem_cons_succ, List.setIfInBounds_toArray, List.set_cons_zero, List.set_cons_succ]
        refine tkH (i := 8) (v := ?_) (fun V hV => ?_) ?_
        rotate_left
        · have e1 := hV.cell 1 (v := .int .i64 p.reserve) rfl; go_simp
          try with_reducible rfl
        try simp only [Act.put, List.getElem_toArray, List.getElem_cons_zero, List.getElem_cons_succ, List.setIfInBounds_toArray, List.set_cons_zero, List.set_cons_succ]
        refine wpAnyH_ready (rs := [5]) (by kernel_rfl) (by simp) ?_
        refine AllReadyH.cons (o := _) rfl (fun K hK => ?_) AllReadyH.nil
        go_simp
        (with_reducible refine (HKP.out k _ hk4 hS.below).mono ?_)
        rintro e w6 ⟨rfl, hb⟩
        rw [HKL.out, HKH.out]
        refine hK.out _ _ (hS.step hb) (fun hS => ?_)
        clear hK K
        try simp only [List.setIfInBounds_toArray, List.set_cons_zero, List.set_cons_succ]
        refine tkH (i := 6) (v := ?_) (fun V hV => ?_) ?_
        rotate_left
        · have q1 := field55 kl kh V; go_simp
          try with_reducible rfl
        try simp only [Act.put, List.getElem_toArray, List.getElem_cons_zero, List.getElem_cons_succ, List.setIfInBounds_toArray, List.set_cons_zero, List.set_cons_succ]
        refine tkH (i := 9) (v := ?_) (fun V hV => ?_) ?_
        rotate_left
        · go_simp
          try with_reducible rfl
        try simp only [Act.put, List.getElem_toArray, List.getElem_cons_zero, List.getElem_cons_succ, List.setIfInBounds_toArray, List.set_cons_zero, List.set_cons_succ]
        refine tkH (i := 10) (v := ?_) (fun V hV => ?_) ?_
        rotate_left
        · go_simp
          try with_reducible rfl
        try simp only [Act.put, List.getElem_toArray, List.getElem_cons_zero, List.getElem_cons_succ, List.setIfInBounds_toArray, List.set_cons_zero, List.set_cons_succ]
        refine wpAnyH_done (by kernel_rfl) ?_ _
        have HB6 := hid hS
        clear hS
        by_cases hkr : kh ≤ p.reserve
        · skip
          have HI1 : Hid (isC p k = true) := hid (by rw [HIS.out]; simp [hkr])
          obtain ⟨bb, hbb⟩ : ∃ z, bestO s = z := ⟨_, rfl⟩
          obtain ⟨fb, hfb⟩ : ∃ z, s.isSome = z := ⟨_, rfl⟩
          rw [hbb, hfb]
          have hb4 : bb < 4096 := by cases s with | none => (have : (0 : Nat) = bb := hbb); omega | some b => (have : b = bb := hbb); have := HS.out b rfl; omega
          have HBB := hid hbb; have HFB := hid hfb
          clear hbb hfb
          go_upto_region 7 with fail
          refine wp_region_held_drew (S := fun V => Boxed1 w #[.slice lp ln lc, .int .i64 p.reserve, .slice tp tn tc, .slice rp rn rc] 26 V) (by kernel_rfl) (HB6.out.drew) (fun hS => ?_)
          simp only [List.size_toArray, List.length_cons, List.length_nil, Nat.reduceAdd, Array.replicate_succ, Array.replicate_zero, List.push_toArray, List.nil_append, List.cons_append]
          refine tkH (i := 0) (v := ?_) (fun V hV => ?_) ?_
          rotate_left
          · have e0 := hV.cell 0 (v := .slice lp ln lc) rfl; have e1 := hV.cell 1 (v := .int .i64 p.reserve) rfl; have e2 := hV.cell 2 (v := .slice tp tn tc) rfl; have e3 := hV.cell 3 (v := .slice rp rn rc) rfl; go_simp
            try with_reducible rfl
          try simp only [Act.put, List.getElem_toArray, List.getElem_cons_zero, List.setIfInBounds_toArray, List.set_cons_zero, List.set_cons_succ]
          refine tkH (i := 1) (v := ?_) (fun V hV => ?_) ?_
          rotate_left
          · go_simp
            try with_reducible rfl
          try simp only [Act.put, List.getElem_toArray, List.getElem_cons_zero, List.getElem_cons_succ, List.setIfInBounds_toArray, List.set_cons_zero, List.set_cons_succ]
          refine tkH (i := 3) (v := ?_) (fun V hV => ?_) ?_
          rotate_left
          · have e0 := hV.cell 0 (v := .slice lp ln lc) rfl; have e1 := hV.cell 1 (v := .int .i64 p.reserve) rfl; have e2 := hV.cell 2 (v := .slice tp tn tc) rfl; have e3 := hV.cell 3 (v := .slice rp rn rc) rfl; go_simp
            try with_reducible rfl
          try simp only [Act.put, List.getElem_toArray, List.getElem_cons_zero, List.getElem_cons_succ, List.setIfInBounds_toArray, List.set_cons_zero, List.set_cons_succ]
          refine tkH (i := 4) (v := ?_) (fun V hV => ?_) ?_
          rotate_left
          · go_simp
            try with_reducible rfl
          try simp only [Act.put, List.getElem_toArray, List.getElem_cons_zero, List.getElem_cons_succ, List.setIfInBounds_toArray, List.set_cons_zero, List.set_cons_succ]
          refine wpAnyH_ready (rs := [2]) (by kernel_rfl) (by simp) ?_
          refine AllReadyH.cons (o := _) rfl (fun K hK => ?_) AllReadyH.nil
          go_simp
          (with_reducible refine (HPR.out k _ hk4 hS.below).mono ?_)
          rintro e w7 ⟨rfl, hb⟩
          obtain ⟨pk, hpk⟩ : ∃ z, priceG (bitB (k : Nat)) 0 p.ts = z := ⟨_, rfl⟩
          rw [hpk]
          have HPK : Hid (prC p k = pk) := hid hpk
          clear hpk
          refine hK.out _ _ (hS.step hb) (fun hS => ?_)
          clear hK K
          try simp only [List.setIfInBounds_toArray, List.set_cons_zero, List.set_cons_succ]
          refine wpAnyH_ready (rs := [5]) (by kernel_rfl) (by simp) ?_
          refine AllReadyH.cons (o := _) rfl (fun K hK => ?_) AllReadyH.nil
          go_simp
          (with_reducible refine (HPR.out bb _ hb4 hS.below).mono ?_)
          rintro e w8 ⟨rfl, hb⟩
          obtain ⟨pb, hpb⟩ : ∃ z, priceG (bitB (bb : Nat)) 0 p.ts = z := ⟨_, rfl⟩
          rw [hpb]
          have HPB : Hid (prC p bb = pb) := hid hpb
          clear hpb
          refine hK.out _ _ (hS.step hb) (fun hS => ?_)
          clear hK K
          try simp only [List.setIfInBounds_toArray, List.set_cons_zero, List.set_cons_succ]
          refine tkH (i := 6) (v := ?_) (fun V hV => ?_) ?_
          rotate_left
          · go_simp
            try with_reducible rfl
          try simp only [Act.put, List.getElem_toArray, List.getElem_cons_zero, List.getElem_cons_succ, List.setIfInBounds_toArray, List.set_cons_zero, List.set_cons_succ]
          refine tkH (i := 7) (v := ?_) (fun V hV => ?_) ?_
          rotate_left
          · go_simp
            try with_reducible rfl
          try simp only [Act.put, List.getElem_toArray, List.getElem_cons_zero, List.getElem_cons_succ, List.setIfInBounds_toArray, List.set_cons_zero, List.set_cons_succ]
          refine wpAnyH_done (by kernel_rfl) ?_ _
          have HB8 := hid hS
          clear hS
          cases s with
          | none =>
            obtain rfl : false = fb := HFB.out
            have HNX : Hid (chG (isC p) (prC p) (k + 1) (M - (k + 1)) (some k) = cheapR p) := hid (by have h := HGO.out; rw [if_pos (by rw [HI1.out, chT]; rfl)] at h; exact h.symm)
            go_wp2_with fail
            go_roundw
            case rel => exact ⟨k + 1, some k, by omega, by go_num, rfl, rfl, (fun y hy => by cases hy; omega), HB8.out, HNX.out⟩
            case measure => simp [intOf]; omega
          | some b =>
            obtain rfl : true = fb := HFB.out
            obtain rfl : b = bb := HBB.out
            have HCT : Hid ((isC p k && chT (prC p) k (some b)) = (decide (pk < pb) || (decide (pk = pb) && shorterB (bitsL (k : Nat)) (bitsL (b : Nat))))) := hid (by rw [HI1.out, chT, HPK.out, HPB.out]; rfl)
            by_cases hlt2 : pk < pb
            · skip
              have HNX : Hid (chG (isC p) (prC p) (k + 1) (M - (k + 1)) (some k) = cheapR p) := hid (by have h := HGO.out; rw [if_pos (by rw [HCT.out]; simp [hlt2])] at h; exact h.symm)
              go_wp2_with fail
              go_roundw
              case rel => exact ⟨k + 1, some k, by omega, by go_num, rfl, rfl, (fun y hy => by cases hy; omega), HB8.out, HNX.out⟩
              case measure => simp [intOf]; omega
            · skip
              by_cases heq : pk = pb
              · skip
                obtain rfl := heq
                go_wp2_with fail
                (with_reducible refine (HBT.out k _ hk4).mono ?_)
                rintro e w9 ⟨v9, rfl, ho9, hb⟩
                obtain ⟨q9, c9, rfl, hi9⟩ := ho9.slice
                obtain ⟨N9, hN9⟩ : ∃ n, (bitsL (k : Nat)).length = n := ⟨_, rfl⟩
                have hl9 : N9 ≤ 12 := by rw [← hN9]; exact bits_len _
                rw [hN9] at hi9 ⊢
                have HI9 := hid hi9
                have HB9 := hid (HB8.out.step hb)
                clear ho9 hi9 hN9 hb
                go_wp2_with fail
                (with_reducible refine (HBT.out b _ hb4).mono ?_)
                rintro e w10 ⟨v10, rfl, ho10, hb⟩
                obtain ⟨q10, c10, rfl, hi10⟩ := ho10.slice
                obtain ⟨N10, hN10⟩ : ∃ n, (bitsL (b : Nat)).length = n := ⟨_, rfl⟩
                have hl10 : N10 ≤ 12 := by rw [← hN10]; exact bits_len _
                rw [hN10] at hi10 ⊢
                have HI10 := hid hi10
                have HB10 := hid (HB9.out.step hb)
                have HI9b := hid (HI9.out.below hb)
                clear ho10 hi10 hN10 hb
                go_wp2_with fail
                (with_reducible refine (shorter_any q9 N9 c9 _ q10 N10 c10 _ w10 HI9b.out HI10.out (by omega) (by omega)).mono ?_)
                rintro e w11 ⟨rfl, nn, hw⟩
                have HB11 : Hid (Boxed1 w #[.slice lp ln lc, .int .i64 p.reserve, .slice tp tn tc, .slice rp rn rc] 26 w11) := hid (by rw [hw]; exact HB10.out.drewN nn)
                clear hw
                cases hsh : shorterB (bitsL (k : Nat)) (bitsL (b : Nat))
                · skip
                  have HNX : Hid (chG (isC p) (prC p) (k + 1) (M - (k + 1)) (some b) = cheapR p) := hid (by have h := HGO.out; rw [if_neg (by rw [HCT.out, hsh]; simp)] at h; exact h.symm)
                  go_wp2_with fail
                  go_roundw
                  case rel => exact ⟨k + 1, some b, by omega, by go_num, rfl, rfl, (fun y hy => by have := HS.out y hy; omega), HB11.out, HNX.out⟩
                  case measure => simp [intOf]; omega
                · skip
                  have HNX : Hid (chG (isC p) (prC p) (k + 1) (M - (k + 1)) (some k) = cheapR p) := hid (by have h := HGO.out; rw [if_pos (by rw [HCT.out, hsh]; simp)] at h; exact h.symm)
                  go_wp2_with fail
                  go_roundw
                  case rel => exact ⟨k + 1, some k, by omega, by go_num, rfl, rfl, (fun y hy => by cases hy; omega), HB11.out, HNX.out⟩
                  case measure => simp [intOf]; omega
              · skip
                have HNX : Hid (chG (isC p) (prC p) (k + 1) (M - (k + 1)) (some b) = cheapR p) := hid (by have h := HGO.out; rw [if_neg (by rw [HCT.out]; simp [hlt2, heq])] at h; exact h.symm)
                go_wp2_with fail
                go_roundw
                case rel => exact ⟨k + 1, some b, by omega, by go_num, rfl, rfl, (fun y hy => by have := HS.out y hy; omega), HB8.out, HNX.out⟩
                case measure => simp [intOf]; omega
        · skip
          have HNX : Hid (chG (isC p) (prC p) (k + 1) (M - (k + 1)) s = cheapR p) := hid (by have h := HGO.out; rw [if_neg (by rw [HIS.out]; simp [hkr])] at h; exact h.symm)
          go_wp2_with fail
          go_roundw
          case rel => exact ⟨k + 1, s, by omega, by go_num, rfl, rfl, (fun y hy => by have := HS.out y hy; omega), HB6.out, HNX.out⟩
          case measure => simp [intOf]; omega
    · skip
      have hnle : ¬ (k : Int) ≤ (M : Int) - 1 := by omega
      have HX : Hid (cheapR p = s) := hid (by rw [← HR.out, show M - k = 0 by omega]; rfl)
      go_wp2_with fail
      go_ret2
      exact ⟨by rw [HX.out]; rfl, HB1.out.below⟩
end Go.Proofs.Ytaioobhblfnlaaa
