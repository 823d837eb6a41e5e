/- Package treaty: the cheapest set of treaties. No condition. -/
import Derived.Test.YtaioobhblfnlaaaP18
import Derived.OwnWalk
namespace Go.Proofs.Ytaioobhblfnlaaa
open Go.RowKit

noncomputable def chO (p : Prg) : Option (List Int) := if faultP p = 0 then cheapP p else none
noncomputable def chV (p : Prg) : List Int := (chO p).getD []
noncomputable def chE (p : Prg) : Int := if faultP p = 0 then (if (cheapP p).isSome = true then 0 else 10) else faultP p
def CheapPost (p : Prg) (w : World) : Ending → World → Prop := fun e w' => ∃ q k d, e = .returned (.tuple #[.slice q k d, .int .i64 (prO p.ts (chO p)), .int .i64 (chE p)]) ∧ IntsAt w' q k (chV p) ∧ Below w.heap.size w w'
theorem ints_none (w : World) : IntsAt w none 0 [] := ⟨rfl, fun i hi => by omega⟩
theorem setsF_go {σ : Type} (f : Nat → Bool) (g : σ → List Int → σ) (b i : Nat) (s : σ) (h : i < b + 1) :
    ((List.range' i (b + 1 - i)).flatMap fun m => combF f b m 0).foldl g s = ((List.range' (i + 1) (b + 1 - (i + 1))).flatMap fun m => combF f b m 0).foldl g (((combF f b i 0).map fun y => ([] : List Int) ++ y).foldl g s) := by
  have e : b + 1 - i = (b + 1 - (i + 1)) + 1 := by omega
  rw [e, List.range'_succ, List.flatMap_cons, List.foldl_append]
  simp

set_option maxRecDepth 100000 in
set_option maxHeartbeats 16000000 in
theorem cheapest_any (p : Prg) (lp : Option Addr) (ln lc : Nat) (tp : Option Addr) (tn tc : Nat) (rp : Option Addr) (rn rc : Nat) (w : World) (hp : PrgAt w p lp ln tp tn rp rn) : Calls Try.prog 40 #[.agg #[.slice lp ln lc, .int .i64 p.reserve, .slice tp tn tc, .slice rp rn rc]] w (CheapPost p w) := by
  have HC := hid (fun W (hW : Below w.heap.size w W) => check_any p lp ln lc tp tn tc rp rn rc W (hp.below hW))
  have HP := hid hp
  have HTN := hid hp.t.1
  clear hp
  obtain ⟨w3, hw3⟩ : ∃ V, ((w.alloc (.cells #[.slice lp ln lc, .int .i64 p.reserve, .slice tp tn tc, .slice rp rn rc] 37)).alloc (.cells #[.slice none 0 0] 27)).alloc (.cells #[.int .i64 0] 3) = V := ⟨_, rfl⟩
  have h1 := BoxIs.start w #[.slice lp ln lc, .int .i64 p.reserve, .slice tp tn tc, .slice rp rn rc] 37
  have h2 := BoxIs.start (w.alloc (.cells #[.slice lp ln lc, .int .i64 p.reserve, .slice tp tn tc, .slice rp rn rc] 37)) #[.slice none 0 0] 27
  have h3 := BoxIs.start ((w.alloc (.cells #[.slice lp ln lc, .int .i64 p.reserve, .slice tp tn tc, .slice rp rn rc] 37)).alloc (.cells #[.slice none 0 0] 27)) #[.int .i64 0] 3
  rw [World.size_alloc] at h2
  rw [World.size_alloc, World.size_alloc] at h3
  have HB3 : Hid (BoxIs w.heap.size #[.slice lp ln lc, .int .i64 p.reserve, .slice tp tn tc, .slice rp rn rc] w3) := hid (by rw [← hw3]; exact (h1.below ((Below.refl _ _).alloc (Nat.le_refl _) _)).below ((Below.refl _ _).alloc (Nat.le_refl _) _))
  have HS3 : Hid (BoxIs (w.heap.size + 1) #[.slice none 0 0] w3) := hid (by rw [← hw3]; exact h2.below ((Below.refl _ _).alloc (Nat.le_refl _) _))
  have HQ3 : Hid (BoxIs (w.heap.size + 1 + 1) #[.int .i64 0] w3) := hid (by rw [← hw3]; exact h3)
  have HW3 : Hid (Below w.heap.size w w3) := hid (by rw [← hw3]; exact (((Below.refl _ _).alloc (Nat.le_refl _) _).alloc (by simp) _).alloc (by simp; omega) _)
  have HZ3 : Hid (w3.heap.size = w.heap.size + 3) := hid (by rw [← hw3]; simp)
  clear h1 h2 h3
  have hmf : ∀ (fn : Fn) (first cap : Array Value) (w : World), (Instr.makeFunc fn first cap).run Try.prog w = .ok (.func fn first cap) w := fun _ _ _ _ => rfl
  have e0 := (HB3.out.2 0 (.slice lp ln lc) rfl).1; have e1 := (HB3.out.2 1 (.int .i64 p.reserve) rfl).1; have e2 := (HB3.out.2 2 (.slice tp tn tc) rfl).1; have e3 := (HB3.out.2 3 (.slice rp rn rc) rfl).1
  go_enter Try.func40, Try.ntmps40
  go_wp2_with fail
  clear hw3 e0 e1 e2 e3
  (with_reducible refine (HC.out _ HW3.out).mono ?_)
  rintro e w4 ⟨rfl, hb⟩
  have HB4 := hid (HB3.out.below hb); have HS4 := hid (HS3.out.below hb); have HQ4 := hid (HQ3.out.below hb); have HW4 := hid (HW3.out.trans (hb.mono HW3.out.size)); have HZ4 : Hid (w.heap.size + 3 ≤ w4.heap.size) := hid (by have := hb.size; have := HZ3.out; omega)
  clear hb HB3 HS3 HQ3 HW3 HZ3
  by_cases h0 : faultP p = 0
  · skip
    have HOK := hid (fault_iff.1 h0)
    have HO : Hid (chO p = cheapP p) := hid (by rw [chO, if_pos h0])
    have HE : Hid (chE p = if (cheapP p).isSome = true then 0 else 10) := hid (by rw [chE, if_pos h0])
    rw [h0]
    clear h0
    go_upto_region 7 with fail
    obtain ⟨w6, hw6⟩ : ∃ V, (w4.alloc (.cells #[.bool false] 4)).alloc (.cells #[.func (.func 92) #[] #[.pointer (some ⟨w.heap.size, 0, none⟩), .pointer (some ⟨w4.heap.size, 0, none⟩), .pointer (some ⟨w.heap.size + 1 + 1, 0, none⟩), .pointer (some ⟨w.heap.size + 1, 0, none⟩), .pointer (some ⟨w4.heap.size + 1, 0, none⟩)]] 141) = V := ⟨_, rfl⟩
    rw [hw6]
    have h1 := BoxIs.start w4 #[.bool false] 4
    have h2 := BoxIs.start (w4.alloc (.cells #[.bool false] 4)) #[.func (.func 92) #[] #[.pointer (some ⟨w.heap.size, 0, none⟩), .pointer (some ⟨w4.heap.size, 0, none⟩), .pointer (some ⟨w.heap.size + 1 + 1, 0, none⟩), .pointer (some ⟨w.heap.size + 1, 0, none⟩), .pointer (some ⟨w4.heap.size + 1, 0, none⟩)]] 141
    rw [World.size_alloc] at h2
    have hb6 : Below w4.heap.size w4 w6 := by rw [← hw6]; exact ((Below.refl _ _).alloc (Nat.le_refl _) _).alloc (by simp) _
    have HAT : Hid (ChAt w w6 p lp ln lc tp tn tc rp rn rc w.heap.size (w4.heap.size + 1) w4.heap.size (w.heap.size + 1 + 1) (w.heap.size + 1)) := hid ⟨HW4.out.trans (hb6.mono HW4.out.size), HB4.out.below hb6, by rw [← hw6]; exact h2⟩
    have HST : Hid (ChSt p.ts w4.heap.size (w.heap.size + 1 + 1) (w.heap.size + 1) w6 none) := hid ⟨by rw [← hw6]; exact h1.below ((Below.refl _ _).alloc (Nat.le_refl _) _), HQ4.out.below hb6, none, 0, 0, HS4.out.below hb6, fun X hX => by cases hX⟩
    have HD : Hid (ChD w.heap.size w.heap.size (w4.heap.size + 1) w4.heap.size (w.heap.size + 1 + 1) (w.heap.size + 1)) := hid (by have hz := HZ4.out; exact ⟨by omega, by omega, by omega, by unfold chS; omega, by unfold chS; omega, by omega, by omega, by omega⟩)
    clear h1 h2 hb6 hw6 hmf HB4 HS4 HQ4 HW4 HC
    have hm5 : p.ts.length ≤ 5 := HOK.out.m5
    have htl : tn ≤ 5 := by have := HTN.out; omega
    have hw1 : IntKind.i64.wrap ((tn : Int) + 1) = (tn : Int) + 1 := IntWalk.i64_in _ (by omega)
    have e2 := (HAT.out.b.2 2 _ rfl).1
    go_wp2_with fail
    clear e2 hw1
    go_loopw [19] (fun x wr => ∃ (i : Nat) (sx : Option (List Int)), i ≤ p.ts.length + 1 ∧ x = .int .i64 i ∧ ChAt w wr p lp ln lc tp tn tc rp rn rc w.heap.size (w4.heap.size + 1) w4.heap.size (w.heap.size + 1 + 1) (w.heap.size + 1) ∧ ChSt p.ts w4.heap.size (w.heap.size + 1 + 1) (w.heap.size + 1) wr sx ∧ ((List.range' (i) (p.ts.length + 1 - (i))).flatMap fun m => combF (freeN p.ts) p.ts.length m 0).foldl (chStep (priceL p.ts) (sufB p)) sx = cheapP p) (fun x _ => p.ts.length + 2 - (intOf x).toNat)
    case atStart => exact ⟨0, none, by omega, rfl, HAT.out, HST.out, by rw [cheapP, chL, setsF, List.range_eq_range', Nat.sub_zero]⟩
    case round =>
      clear HAT HST
      obtain ⟨i, sx, hi, rfl, hat, hst, hr⟩ := hrel
      have HAT := hid hat; have HST := hid hst; have HR := hid hr
      clear hat hst hr
      have htn := HTN.out
      by_cases hlt : (i : Int) < (tn : Int) + 1
      · skip
        have HGO := hid (setsF_go (freeN p.ts) (chStep (priceL p.ts) (sufB p)) p.ts.length i sx (by omega))
        obtain ⟨sn, hsn⟩ : ∃ z, ((combF (freeN p.ts) p.ts.length i 0).map fun y => ([] : List Int) ++ y).foldl (chStep (priceL p.ts) (sufB p)) sx = z := ⟨_, rfl⟩
        rw [hsn] at HGO
        have HCH := hid (cheap92_any w.heap.size (w4.heap.size + 1) w4.heap.size (w.heap.size + 1 + 1) (w.heap.size + 1) p lp ln lc tp tn tc rp rn rc w HD.out HP.out HOK.out i 0 [] none 0 0 wr sx HAT.out HST.out ⟨ints_none _, fun a ha => by cases ha⟩ (by omega) (by simp) (fun a ha => by cases ha) (by simp; omega))
        rw [hsn] at HCH
        rw [show ((0 : Nat) : Int) = 0 from rfl] at HCH
        have v0 := (HAT.out.a.2 0 _ rfl).1
        have hw2 : IntKind.i64.wrap ((i : Int) + 1) = (i : Int) + 1 := IntWalk.i64_in _ (by omega)
        clear hsn htn
        go_wp2_with fail
        (with_reducible refine HCH.out.mono ?_)
        rintro e w7 ⟨⟨v, rfl⟩, hn, hs⟩
        have HS7 := hid hs
        have HA7 := hid (HAT.out.near HD.out hn)
        have HNX := hid (HGO.out.symm.trans HR.out)
        clear hs hn v0
        go_wp2_with fail
        go_roundw
        case rel => exact ⟨i + 1, sn, by have := HTN.out; omega, by go_num, HA7.out, HS7.out, HNX.out⟩
        case measure => simp [intOf]; omega
      · skip
        have HSX : Hid (cheapP p = sx) := hid (by rw [← HR.out, show p.ts.length + 1 - i = 0 by omega]; rfl)
        rw [HSX.out] at HO HE
        obtain ⟨qs, ks, cs, hbx, hbq⟩ := HST.out.s
        have HBX := hid hbx
        have HBQ := hid hbq
        have f0 := (HST.out.f.2 0 _ rfl).1
        clear hbx hbq htn
        obtain ⟨wo, rfl⟩ : ∃ wo : World, wo = wr := ⟨_, rfl⟩
        cases sx with
        | none =>
          have f1 : wo.cell? ⟨w4.heap.size, 0, none⟩ = some (.bool false) := f0
          clear f0
          have hx := HBX.out; have hy := HST.out.q
          have hy0 := hy.other (b' := w.heap.size + 1) (k' := 0) (by omega) (.slice none 0 0)
          have hX : BoxIs (w.heap.size + 1) #[.slice none 0 0] ((wo.setCell ⟨w.heap.size + 1, 0, none⟩ (.slice none 0 0)).setCell ⟨w.heap.size + 1 + 1, 0, none⟩ (.int .i64 0)) := (hx.put (j := 0) (.slice none 0 0)).other (by omega) _
          have hY : BoxIs (w.heap.size + 1 + 1) #[.int .i64 0] ((wo.setCell ⟨w.heap.size + 1, 0, none⟩ (.slice none 0 0)).setCell ⟨w.heap.size + 1 + 1, 0, none⟩ (.int .i64 0)) := hy0.put (j := 0) (.int .i64 0)
          have x0 := (hx.2 0 _ rfl).1; have x1 := (hx.2 0 _ rfl).2; have y0 := (hy0.2 0 _ rfl).1; have y1 := (hy0.2 0 _ rfl).2
          have hN : Below w.heap.size wo ((wo.setCell ⟨w.heap.size + 1, 0, none⟩ (.slice none 0 0)).setCell ⟨w.heap.size + 1 + 1, 0, none⟩ (.int .i64 0)) := ((Below.refl _ _).setCell (p := ⟨w.heap.size + 1, 0, none⟩) (by show w.heap.size ≤ w.heap.size + 1; omega) _).setCell (p := ⟨w.heap.size + 1 + 1, 0, none⟩) (by show w.heap.size ≤ w.heap.size + 1 + 1; omega) _
          obtain ⟨W9, hW9⟩ : ∃ V, ((wo.setCell ⟨w.heap.size + 1, 0, none⟩ (.slice none 0 0)).setCell ⟨w.heap.size + 1 + 1, 0, none⟩ (.int .i64 0)) = V := ⟨_, rfl⟩
          rw [hW9] at hX hY hN
          have z0 := (hX.2 0 _ rfl).1; have z1 := (hY.2 0 _ rfl).1
          clear hX hY hx hy
          go_wp2_with fail
          refine bodyPost_ret (v := .tuple #[.slice none 0 0, .int .i64 0, .int .i64 10]) (by simp [results, Try.f40, go_sem, z0, z1]) rfl ?_
          try rw [hW9]
          refine ⟨none, 0, 0, by rw [HO.out, HE.out]; rfl, by rw [chV, HO.out]; exact ints_none _, HAT.out.w.trans hN⟩
        | some X =>
          have f1 : wo.cell? ⟨w4.heap.size, 0, none⟩ = some (.bool true) := f0
          clear f0
          obtain ⟨px, hpx⟩ : ∃ z, prO p.ts (some X) = z := ⟨_, rfl⟩
          have hq := HST.out.q
          rw [hpx] at hq
          have HQX := hid hq
          have HPX := hid hpx
          clear hq hpx
          go_upto_region 14 with fail
          refine wp_region_held_drew (S := fun V => BoxIs (w.heap.size + 1) #[.slice qs ks cs] V ∧ BoxIs (w.heap.size + 1 + 1) #[.int .i64 px] V ∧ Near (chS w4.heap.size (w.heap.size + 1 + 1) (w.heap.size + 1)) wo V) (by kernel_rfl) (⟨HBX.out, HQX.out, (Near.refl _ _).drew⟩) (fun hS => ?_)
          simp only [List.size_toArray, List.length_cons, List.length_nil, Nat.reduceAdd, Array.replicate_succ, Array.replicate_zero, List.push_toArray, List.nil_append, List.cons_append]
          refine tkH (i := 0) (v := ?_) (fun V hV => ?_) ?_
          rotate_left
          · have x0 := (hV.1.2 0 _ rfl).1; go_simp
            try with_reducible rfl
          try simp only [Act.put, List.getElem_toArray, List.getElem_cons_zero, List.setIfInBounds_toArray, List.set_cons_zero, List.set_cons_succ]
          refine tkH (i := 1) (v := ?_) (fun V hV => ?_) ?_
          rotate_left
          · have y0 := (hV.2.1.2 0 _ rfl).1; go_simp
            try with_reducible rfl
          try simp only [Act.put, List.getElem_toArray, List.getElem_cons_zero, List.getElem_cons_succ, List.setIfInBounds_toArray, List.set_cons_zero, List.set_cons_succ]
          refine wpAnyH_ready (rs := [2]) (by kernel_rfl) (by simp) ?_
          refine AllReadyH.cons (o := _) rfl (fun K hK => ?_) AllReadyH.nil
          have x0 := (hS.1.2 0 _ rfl).1; have x1 := (hS.1.2 0 _ rfl).2
          go_simp
          refine hK.out _ _ (⟨hS.1.put (j := 0) _, hS.2.1.other (by omega) _, hS.2.2.setCell (p := ⟨w.heap.size + 1, 0, none⟩) (fun _ => .inr (.inr rfl)) _⟩) (fun hS => ?_)
          clear hK K
          try simp only [List.setIfInBounds_toArray, List.set_cons_zero, List.set_cons_succ]
          refine wpAnyH_ready (rs := [3]) (by kernel_rfl) (by simp) ?_
          refine AllReadyH.cons (o := _) rfl (fun K hK => ?_) AllReadyH.nil
          have y0 := (hS.2.1.2 0 _ rfl).1; have y1 := (hS.2.1.2 0 _ rfl).2
          go_simp
          refine hK.out _ _ (⟨hS.1.other (by omega) _, hS.2.1.put (j := 0) _, hS.2.2.setCell (p := ⟨w.heap.size + 1 + 1, 0, none⟩) (fun _ => .inr (.inl rfl)) _⟩) (fun hS => ?_)
          clear hK K
          try simp only [List.setIfInBounds_toArray, List.set_cons_zero, List.set_cons_succ]
          refine tkH (i := 4) (v := ?_) (fun V hV => ?_) ?_
          rotate_left
          · go_simp
            try with_reducible rfl
          try simp only [Act.put, List.getElem_toArray, List.getElem_cons_zero, List.getElem_cons_succ, List.setIfInBounds_toArray, List.set_cons_zero, List.set_cons_succ]
          refine wpAnyH_done (by kernel_rfl) ?_ _
          obtain ⟨W9, hW9⟩ : ∃ V, ((wo.setCell ⟨w.heap.size + 1, 0, none⟩ (.slice qs ks cs)).setCell ⟨w.heap.size + 1 + 1, 0, none⟩ (.int .i64 px)).drew = V := ⟨_, rfl⟩
          rw [hW9] at hS ⊢
          clear hW9
          have z0 := (hS.1.2 0 _ rfl).1; have z1 := (hS.2.1.2 0 _ rfl).1
          have HNS := hid hS.2.2
          clear hS
          go_wp2_with fail
          refine bodyPost_ret (v := .tuple #[.slice qs ks cs, .int .i64 px, .int .i64 0]) (by simp [results, Try.f40, go_sem, z0, z1]) rfl ?_
          refine ⟨qs, ks, cs, by rw [HO.out, HE.out, HPX.out]; rfl, by rw [chV, HO.out]; exact ((HBQ.out X rfl).near HNS.out).1, (HAT.out.near HD.out HNS.out).w⟩
  · have hE : (faultP p != 0) = true := by simpa using h0
    have HO : Hid (chO p = none) := hid (by rw [chO, if_neg h0])
    have HE : Hid (chE p = faultP p) := hid (by rw [chE, if_neg h0])
    clear h0
    have hx := HS4.out; have hy := HQ4.out
    have hy0 := hy.other (b' := w.heap.size + 1) (k' := 0) (by omega) (.slice none 0 0)
    have hX : BoxIs (w.heap.size + 1) #[.slice none 0 0] ((w4.setCell ⟨w.heap.size + 1, 0, none⟩ (.slice none 0 0)).setCell ⟨w.heap.size + 1 + 1, 0, none⟩ (.int .i64 0)) := (hx.put (j := 0) (.slice none 0 0)).other (by omega) _
    have hY : BoxIs (w.heap.size + 1 + 1) #[.int .i64 0] ((w4.setCell ⟨w.heap.size + 1, 0, none⟩ (.slice none 0 0)).setCell ⟨w.heap.size + 1 + 1, 0, none⟩ (.int .i64 0)) := hy0.put (j := 0) (.int .i64 0)
    have x0 := (hx.2 0 _ rfl).1; have x1 := (hx.2 0 _ rfl).2; have y0 := (hy0.2 0 _ rfl).1; have y1 := (hy0.2 0 _ rfl).2
    have hN : Below w.heap.size w4 ((w4.setCell ⟨w.heap.size + 1, 0, none⟩ (.slice none 0 0)).setCell ⟨w.heap.size + 1 + 1, 0, none⟩ (.int .i64 0)) := ((Below.refl _ _).setCell (p := ⟨w.heap.size + 1, 0, none⟩) (by show w.heap.size ≤ w.heap.size + 1; omega) _).setCell (p := ⟨w.heap.size + 1 + 1, 0, none⟩) (by show w.heap.size ≤ w.heap.size + 1 + 1; omega) _
    obtain ⟨W9, hW9⟩ : ∃ V, ((w4.setCell ⟨w.heap.size + 1, 0, none⟩ (.slice none 0 0)).setCell ⟨w.heap.size + 1 + 1, 0, none⟩ (.int .i64 0)) = V := ⟨_, rfl⟩
    rw [hW9] at hX hY hN
    have z0 := (hX.2 0 _ rfl).1; have z1 := (hY.2 0 _ rfl).1
    clear hX hY hx hy
    go_wp2_with fail
    refine bodyPost_ret (v := .tuple #[.slice none 0 0, .int .i64 0, .int .i64 (faultP p)]) (by simp [results, Try.f40, go_sem, z0, z1]) rfl ?_
    try rw [hW9]
    refine ⟨none, 0, 0, by rw [HO.out, HE.out]; rfl, by rw [chV, HO.out]; exact ints_none _, HW4.out.trans hN⟩
end Go.Proofs.Ytaioobhblfnlaaa
