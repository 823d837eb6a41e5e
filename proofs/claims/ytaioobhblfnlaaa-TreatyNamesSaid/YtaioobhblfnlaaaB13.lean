/- The reference: what the society keeps with some treaties, in all truths without reports. No condition but a valid programme. -/
import Derived.Test.YtaioobhblfnlaaaB12
namespace Go.Proofs.Ytaioobhblfnlaaa
open Go.RowKit

def emptyR : Rng := ⟨1099511627776, -1099511627776⟩
/-- The range of what the society keeps in the first k truths without reports. -/
def keptTo (p : Prg) (th : Nat → Bool) (k : Nat) : Rng := (List.range k).foldl (fun r (n : Nat) => widerR r (paysS p.ts th (nthL p.losses n)).2) emptyR
def keptR (p : Prg) (th : Nat → Bool) : Rng := keptTo p th (prodL p.losses).toNat
theorem keptTo_succ (p : Prg) (th : Nat → Bool) (k : Nat) : keptTo p th (k + 1) = widerR (keptTo p th k) (paysS p.ts th (nthL p.losses k)).2 := by
  unfold keptTo
  rw [List.range_succ, List.foldl_append]; rfl
theorem BoxIs.rng {b : Nat} {r : Rng} {W : World} (h : BoxIs b #[.int .i64 r.lo, .int .i64 r.hi] W) : W.cell? ⟨b, 0, none⟩ = some (.int .i64 r.lo) ∧ W.cell? ⟨b, 1, none⟩ = some (.int .i64 r.hi) ∧ W.frozen? ⟨b, 0, none⟩ = false ∧ W.frozen? ⟨b, 1, none⟩ = false :=
  ⟨(h.2 0 _ rfl).1, (h.2 1 _ rfl).1, (h.2 0 _ rfl).2, (h.2 1 _ rfl).2⟩
theorem BoxIs.setRng {b : Nat} {r q : Rng} {W : World} (h : BoxIs b #[.int .i64 r.lo, .int .i64 r.hi] W) : BoxIs b #[.int .i64 q.lo, .int .i64 q.hi] ((W.setCell ⟨b, 0, none⟩ (.int .i64 q.lo)).setCell ⟨b, 1, none⟩ (.int .i64 q.hi)) := (h.put (j := 0) (.int .i64 q.lo)).put (j := 1) (.int .i64 q.hi)
theorem near_rng {S : Nat → Prop} {a W : World} {b : Nat} (h : Near S a W) (hb : b < a.heap.size → S b) (x y : Value) : Near S a ((W.setCell ⟨b, 0, none⟩ x).setCell ⟨b, 1, none⟩ y) := (h.setCell (p := ⟨b, 0, none⟩) hb x).setCell (p := ⟨b, 1, none⟩) hb y

set_option maxRecDepth 100000 in
set_option maxHeartbeats 16000000 in
theorem keptR_any (p : Prg) (lp : Option Addr) (ln lc : Nat) (tp : Option Addr) (tn tc : Nat) (rp : Option Addr) (rn rc : Nat) (bits : Int) (w : World) (hp : PrgAt w p lp ln tp tn rp rn) (ok : OkP p) (h0 : 0 ≤ bits) (h1 : bits < 4096) :
    Calls Try.prog 38 #[.agg #[.slice lp ln lc, .int .i64 p.reserve, .slice tp tn tc, .slice rp rn rc], .int .i64 bits] w fun e w' => e = .returned (.agg #[.int .i64 (keptR p (bitB bits)).lo, .int .i64 (keptR p (bitB bits)).hi]) ∧ Below w.heap.size w w' := by
  have HP := hid hp
  have HLN := hid hp.l.1; have HTN := hid hp.t.1
  have hln4 : ln ≤ 4 := by rw [hp.l.1]; exact ok.n4
  have htn5 : tn ≤ 5 := by rw [hp.t.1]; exact ok.m5
  have HM := hid (fun W (hW : Below w.heap.size w W) => many_any p lp ln lc tp tn tc rp rn rc W (hp.below hW) (by omega) ok.lossOk)
  have HNT := hid (fun W (k : Nat) (hk : k ≤ 1000000) (hW : Below w.heap.size w W) => nth_any p lp ln lc tp tn tc rp rn rc (k : Int) W (hp.below hW) (by omega) ok.lossOk (by omega) (by omega))
  have OK := hid ok
  have hm1 := ok.pos; have hm2 := ok.many
  clear hp ok
  obtain ⟨M, hM⟩ : ∃ M : Nat, prodL p.losses = M := ⟨(prodL p.losses).toNat, by rw [Int.toNat_of_nonneg (by omega)]⟩
  obtain ⟨th, hth⟩ : ∃ f, bitB bits = f := ⟨_, rfl⟩
  have HTH := hid hth
  rw [hth]
  have HA : Hid (keptR p th = keptTo p th M) := by show _ = _; rw [keptR, hM]; rfl
  have HMM : Hid (minI 2000 (prodL p.losses) = (M : Int)) := hid (by rw [hM]; unfold minI; rw [if_pos (by omega)])
  rw [hM] at hm1 hm2
  rw [HMM.out] at HM
  have hM9 : M ≤ 1500 := by omega
  rw [HA.out]
  clear hm1 hm2 hM hth
  obtain ⟨W1, hW1⟩ : ∃ V, (w.alloc (.cells #[.slice lp ln lc, .int .i64 p.reserve, .slice tp tn tc, .slice rp rn rc] 26)).alloc (.cells #[.int .i64 0, .int .i64 0] 55) = V := ⟨_, rfl⟩
  have H1 : Hid (Boxed1 w #[.slice lp ln lc, .int .i64 p.reserve, .slice tp tn tc, .slice rp rn rc] 26 W1) := by show Boxed1 _ _ _ _; rw [← hW1]; exact (Boxed1.start _ _ _).alloc _
  have HZ1 : Hid (BoxIs (w.heap.size + 1) #[.int .i64 0, .int .i64 0] W1) := by
    show BoxIs _ _ _
    have h := BoxIs.start (w.alloc (.cells #[.slice lp ln lc, .int .i64 p.reserve, .slice tp tn tc, .slice rp rn rc] 26)) #[.int .i64 0, .int .i64 0] 55
    rw [hW1, World.size_alloc] at h; exact h
  go_enter Try.func38, Try.ntmps38
  go_wp2_with fail
  refine (emptyE_any _).mono ?_
  rintro e w2 ⟨rfl, hb⟩
  have H2 := hid (H1.out.step hb); have HZ2 := hid (HZ1.out.below hb)
  clear hb hW1 H1 HZ1
  obtain ⟨W3, hW3⟩ : ∃ V, w2.alloc (.cells #[.int .i64 emptyR.lo, .int .i64 emptyR.hi] 55) = V := ⟨_, rfl⟩
  have hb3 : Below w2.heap.size w2 W3 := by rw [← hW3]; exact (Below.refl _ _).alloc (Nat.le_refl _) _
  have HR3 : Hid (BoxIs w2.heap.size #[.int .i64 emptyR.lo, .int .i64 emptyR.hi] W3) := by show BoxIs _ _ _; rw [← hW3]; exact BoxIs.start _ _ _
  have H3 := hid (H2.out.step hb3); have HZ3 := hid (HZ2.out.below hb3); have HSZ := hid HZ2.out.1
  clear hb3
  unfold emptyR at hW3
  simp only at hW3
  go_wp2_with fail
  clear hW3
  go_loopw [6] (fun i wr => ∃ k : Nat, k ≤ M ∧ i = .int .i64 k ∧ BoxIs w2.heap.size #[.int .i64 (keptTo p th k).lo, .int .i64 (keptTo p th k).hi] wr ∧ BoxIs (w.heap.size + 1) #[.int .i64 0, .int .i64 0] wr ∧ Boxed1 w #[.slice lp ln lc, .int .i64 p.reserve, .slice tp tn tc, .slice rp rn rc] 26 wr) (fun i _ => M - (intOf i).toNat)
  case atStart => exact ⟨0, by omega, rfl, HR3.out, HZ3.out, H3.out⟩
  case round =>
    clear HR3 HZ3 H3
    obtain ⟨k, hk, rfl, hr, hz, hb⟩ := hrel
    have HRr := hid hr; have HZr := hid hz; have HB := hid hb
    clear hr hz
    have e0 := hb.cell 0 (v := .slice lp ln lc) rfl; have e1 := hb.cell 1 (v := .int .i64 p.reserve) rfl; have e2 := hb.cell 2 (v := .slice tp tn tc) rfl; have e3 := hb.cell 3 (v := .slice rp rn rc) rfl
    clear hb
    go_wp2_with fail
    (with_reducible refine (HM.out _ ?_).mono ?_)
    · exact HB.out.below
    rintro e w1 ⟨rfl, hb⟩
    have HB1 := hid (HB.out.step hb); have HR1 := hid (HRr.out.below hb); have HZ1 := hid (HZr.out.below hb)
    clear e0 e1 e2 e3 hb
    by_cases hlt : k < M
    · have HS := hid (keptTo_succ p th k)
      have HNT2 := hid (fun W hW => HNT.out W k (by omega) hW)
      have hnb := nth_bd OK.out (k : Int) (by omega)
      obtain ⟨L, hL⟩ : ∃ l, nthL p.losses (k : Int) = l := ⟨_, rfl⟩
      rw [hL] at HNT2 HS hnb
      have HLB := hid hnb
      clear hL hnb
      obtain ⟨r, hr⟩ : ∃ r, keptTo p th k = r := ⟨_, rfl⟩
      rw [hr] at HR1 HS
      clear hr
      obtain ⟨F, hF⟩ : ∃ f, paysS p.ts th L = f := ⟨_, rfl⟩
      rw [hF] at HS
      have HF := hid hF
      clear hF
      go_upto_region 5 with fail
      refine wp_region_held_drew (S := fun V => Boxed1 w #[.slice lp ln lc, .int .i64 p.reserve, .slice tp tn tc, .slice rp rn rc] 26 V) (by kernel_rfl) (HB1.out.drew) (fun hS => ?_)
      simp only [List.size_toArray, List.length_cons, List.length_nil, Nat.reduceAdd, Array.replicate_succ, Array.replicate_zero, List.push_toArray, List.nil_append, List.cons_append]
      refine tkH (i := 0) (v := ?_) (fun V hV => ?_) ?_
      rotate_left
      · have e0 := hV.cell 0 (v := .slice lp ln lc) rfl; have e1 := hV.cell 1 (v := .int .i64 p.reserve) rfl; have e2 := hV.cell 2 (v := .slice tp tn tc) rfl; have e3 := hV.cell 3 (v := .slice rp rn rc) rfl; go_simp
        try with_reducible rfl
      try simp only [Act.put, List.getElem_toArray, List.getElem_cons_zero, List.setIfInBounds_toArray, List.set_cons_zero, List.set_cons_succ]
      refine tkH (i := 1) (v := ?_) (fun V hV => ?_) ?_
      rotate_left
      · have e0 := hV.cell 0 (v := .slice lp ln lc) rfl; have e1 := hV.cell 1 (v := .int .i64 p.reserve) rfl; have e2 := hV.cell 2 (v := .slice tp tn tc) rfl; have e3 := hV.cell 3 (v := .slice rp rn rc) rfl; go_simp
        try with_reducible rfl
      try simp only [Act.put, List.getElem_toArray, List.getElem_cons_zero, List.getElem_cons_succ, List.setIfInBounds_toArray, List.set_cons_zero, List.set_cons_succ]
      refine tkH (i := 2) (v := ?_) (fun V hV => ?_) ?_
      rotate_left
      · go_simp
        try with_reducible rfl
      try simp only [Act.put, List.getElem_toArray, List.getElem_cons_zero, List.getElem_cons_succ, List.setIfInBounds_toArray, List.set_cons_zero, List.set_cons_succ]
      refine tkH (i := 4) (v := ?_) (fun V hV => ?_) ?_
      rotate_left
      · go_simp
        try with_reducible rfl
      try simp only [Act.put, List.getElem_toArray, List.getElem_cons_zero, List.getElem_cons_succ, List.setIfInBounds_toArray, List.set_cons_zero, List.set_cons_succ]
      refine wpAnyH_ready (rs := [3]) (by kernel_rfl) (by simp) ?_
      refine AllReadyH.cons (o := _) rfl (fun K hK => ?_) AllReadyH.nil
      go_simp
      (with_reducible refine (HNT2.out _ hS.below).mono ?_)
      rintro e w3 ⟨v3, rfl, ho3, hb⟩
      obtain ⟨q3, c3, rfl, hi3⟩ := ho3.slice
      have hbb := (show Below w1.heap.size w1 w1.drew from (Below.refl _ _).drew).trans hb
      have HI3 := hid hi3; have HR5 := hid (HR1.out.below hbb); have HZ5 := hid (HZ1.out.below hbb)
      clear ho3 hi3 hbb
      obtain ⟨N3, hN3⟩ : ∃ n, L.length = n := ⟨_, rfl⟩
      rw [hN3] at HI3 ⊢
      have HN3 : Hid (N3 ≤ 4) := hid (by have h1 := HLB.out.1; have h2 := OK.out.n4; omega)
      clear hN3
      refine hK.out _ _ (hS.step hb) (fun hS => ?_)
      clear hK K
      try simp only [List.setIfInBounds_toArray, List.set_cons_zero, List.set_cons_succ]
      refine wpAnyH_ready (rs := [5]) (by kernel_rfl) (by simp) ?_
      refine AllReadyH.cons (o := _) rfl (fun K hK => ?_) AllReadyH.nil
      go_simp
      (with_reducible refine (pays_any p lp ln lc tp tn tc rp rn rc q3 N3 c3 L bits _ (HP.out.below hS.below) HI3.out (by omega) (by have := HN3.out; omega) OK.out.ots HLB.out.2 h0 h1).mono ?_)
      rintro e w6 ⟨q6, c6, rfl, hi6, hb⟩
      rw [HTH.out, HF.out]
      have HR6 := hid (HR5.out.below hb); have HZ6 := hid (HZ5.out.below hb)
      clear hi6
      refine hK.out _ _ (hS.step hb) (fun hS => ?_)
      clear hK K
      try simp only [List.setIfInBounds_toArray, List.set_cons_zero, List.set_cons_succ]
      refine tkH (i := 6) (v := ?_) (fun V hV => ?_) ?_
      rotate_left
      · go_simp
        try with_reducible rfl
      try simp only [Act.put, List.getElem_toArray, List.getElem_cons_zero, List.getElem_cons_succ, List.setIfInBounds_toArray, List.set_cons_zero, List.set_cons_succ]
      refine tkH (i := 7) (v := ?_) (fun V hV => ?_) ?_
      rotate_left
      · go_simp
        try with_reducible rfl
      try simp only [Act.put, List.getElem_toArray, List.getElem_cons_zero, List.getElem_cons_succ, List.setIfInBounds_toArray, List.set_cons_zero, List.set_cons_succ]
      refine tkH (i := 8) (v := ?_) (fun V hV => ?_) ?_
      rotate_left
      · go_simp
        try with_reducible rfl
      try simp only [Act.put, List.getElem_toArray, List.getElem_cons_zero, List.getElem_cons_succ, List.setIfInBounds_toArray, List.set_cons_zero, List.set_cons_succ]
      refine tkH (i := 9) (v := ?_) (fun V hV => ?_) ?_
      rotate_left
      · go_simp
        try with_reducible rfl
      try simp only [Act.put, List.getElem_toArray, List.getElem_cons_zero, List.getElem_cons_succ, List.setIfInBounds_toArray, List.set_cons_zero, List.set_cons_succ]
      refine tkH (i := 10) (v := ?_) (fun V hV => ?_) ?_
      rotate_left
      · go_simp
        try with_reducible rfl
      try simp only [Act.put, List.getElem_toArray, List.getElem_cons_zero, List.getElem_cons_succ, List.setIfInBounds_toArray, List.set_cons_zero, List.set_cons_succ]
      refine wpAnyH_done (by kernel_rfl) ?_ _
      have HB6 := hid hS
      clear hS
      have ⟨c0, c1, _, _⟩ := HR6.out.rng
      go_wp2_with fail
      refine (widerE_any r F.2 _).mono ?_
      rintro e w7 ⟨rfl, hb⟩
      have HR7 := hid (HR6.out.below hb); have HZ7 := hid (HZ6.out.below hb); have HB7 := hid (HB6.out.step hb)
      clear hb c0 c1
      have ⟨c0, c1, f0, f1⟩ := HR7.out.rng
      have HR8 := hid (BoxIs.setRng (q := widerR r F.2) HR7.out)
      have hn8 := near_rng (S := fun i => i = w2.heap.size) (Near.refl _ w7) (b := w2.heap.size) (fun _ => rfl) (.int .i64 (widerR r F.2).lo) (.int .i64 (widerR r F.2).hi)
      have HZ8 := hid (HZ7.out.far hn8 (by have := HSZ.out; omega))
      have HB8 := hid (HB7.out.step' (hn8.below (by have := HR7.out.1; have := HSZ.out; omega) (fun i hi e => by have := HSZ.out; omega)))
      clear hn8
      go_wp2_with fail
      generalize (w7.setCell ⟨w2.heap.size, 0, none⟩ (.int .i64 (widerR r F.2).lo)).setCell ⟨w2.heap.size, 1, none⟩ (.int .i64 (widerR r F.2).hi) = w8 at HR8 HZ8 HB8 ⊢
      clear c0 c1 f0 f1
      go_wp2_with fail
      go_roundw
      case rel => exact ⟨k + 1, by omega, by go_num, by rw [HS.out]; exact HR8.out, HZ8.out, HB8.out⟩
      case measure => simp [intOf]; omega
    · have hkM : k = M := by omega
      subst hkM
      obtain ⟨r, hr⟩ : ∃ r, keptTo p th k = r := ⟨_, rfl⟩
      rw [hr] at HR1
      have HRE := hid hr
      clear hr
      have ⟨c0, c1, _, _⟩ := HR1.out.rng
      have z0 := (HZ1.out.2 0 (.int .i64 0) rfl).1; have z1 := (HZ1.out.2 1 (.int .i64 0) rfl).1; have y0 := (HZ1.out.2 0 (.int .i64 0) rfl).2; have y1 := (HZ1.out.2 1 (.int .i64 0) rfl).2
      have HY := hid ((HZ1.out.put (j := 0) (.int .i64 r.lo)).put (j := 1) (.int .i64 r.hi))
      have hn9 := near_rng (S := fun i => i = w.heap.size + 1) (Near.refl _ w1) (b := w.heap.size + 1) (fun _ => rfl) (.int .i64 r.lo) (.int .i64 r.hi)
      have HN9 := hid (HB1.out.below.trans (hn9.below (B := w.heap.size) (by have := HB1.out.size; omega) (fun i hi e => by omega)))
      clear hn9
      go_wp2_with fail
      generalize (w1.setCell ⟨w.heap.size + 1, 0, none⟩ (.int .i64 r.lo)).setCell ⟨w.heap.size + 1, 1, none⟩ (.int .i64 r.hi) = w9 at HY HN9 ⊢
      clear z0 z1 y0 y1 c0 c1
      have x0 := (HY.out.2 0 (.int .i64 r.lo) rfl).1; have x1 := (HY.out.2 1 (.int .i64 r.hi) rfl).1
      go_wp2_with fail
      refine bodyPost_ret (v := .agg #[.int .i64 r.lo, .int .i64 r.hi]) (by simp [results, Try.f38, go_sem, x0, x1]) rfl ?_
      exact ⟨by rw [HRE.out], HN9.out⟩
end Go.Proofs.Ytaioobhblfnlaaa
