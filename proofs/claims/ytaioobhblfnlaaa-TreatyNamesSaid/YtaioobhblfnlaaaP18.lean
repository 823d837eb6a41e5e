/- Package treaty: the search for the cheapest set of treaties. No condition but a sound programme. -/
import Derived.Test.YtaioobhblfnlaaaPlW
import Derived.Test.YtaioobhblfnlaaaP17
import Derived.Deep.AppendLies
namespace Go.Proofs.Ytaioobhblfnlaaa
open Go.RowKit

/-- The cells that the search writes. -/
def chS (bf bq bs : Nat) : Nat → Prop := fun k => k = bf ∨ k = bq ∨ k = bs
/-- A slice of numbers that lies in none of some blocks. -/
def QS (S : Nat → Prop) (W : World) (p : Option Addr) (k : Nat) (l : List Int) : Prop := IntsAt W p k l ∧ ∀ a, p = some a → ¬ S a.block
theorem QS.near {S : Nat → Prop} {W W' : World} {p : Option Addr} {k : Nat} {l : List Int} (h : QS S W p k l) (hn : Near S W W') : QS S W' p k l :=
  ⟨h.1.kept fun a ha _ hlt => hn.block _ hlt (h.2 a ha), h.2⟩
def prO (ts : List Tre) : Option (List Int) → Int
  | none => 0
  | some X => priceL ts X
/-- What has been found so far. -/
structure ChSt (ts : List Tre) (bf bq bs : Nat) (W : World) (s : Option (List Int)) : Prop where
  f : BoxIs bf #[.bool s.isSome] W
  q : BoxIs bq #[.int .i64 (prO ts s)] W
  s : ∃ p k c, BoxIs bs #[.slice p k c] W ∧ ∀ X, s = some X → QS (chS bf bq bs) W p k X
theorem ChSt.below {ts : List Tre} {bf bq bs : Nat} {W W' : World} {s : Option (List Int)} (h : ChSt ts bf bq bs W s) (hb : Below W.heap.size W W') : ChSt ts bf bq bs W' s := by
  obtain ⟨p, k, c, h1, h2⟩ := h.s
  exact ⟨h.f.below hb, h.q.below hb, p, k, c, h1.below hb, fun X hX => (h2 X hX).near (near_below hb)⟩
/-- The blocks of the search. -/
structure ChD (n bb ba bf bq bs : Nat) : Prop where
  f : n ≤ bf
  q : n ≤ bq
  s : n ≤ bs
  b : ¬ chS bf bq bs bb
  a : ¬ chS bf bq bs ba
  fq : bf ≠ bq
  fs : bf ≠ bs
  qs : bq ≠ bs
structure ChAt (w0 W : World) (p : Prg) (lp : Option Addr) (ln lc : Nat) (tp : Option Addr) (tn tc : Nat) (rp : Option Addr) (rn rc : Nat) (bb ba bf bq bs : Nat) : Prop where
  w : Below w0.heap.size w0 W
  b : BoxIs bb #[.slice lp ln lc, .int .i64 p.reserve, .slice tp tn tc, .slice rp rn rc] W
  a : BoxIs ba #[.func (.func 92) #[] #[.pointer (some ⟨bb, 0, none⟩), .pointer (some ⟨bf, 0, none⟩), .pointer (some ⟨bq, 0, none⟩), .pointer (some ⟨bs, 0, none⟩), .pointer (some ⟨ba, 0, none⟩)]] W
theorem ChAt.near {w0 W W' : World} {p : Prg} {lp : Option Addr} {ln lc : Nat} {tp : Option Addr} {tn tc : Nat} {rp : Option Addr} {rn rc : Nat} {bb ba bf bq bs : Nat} (h : ChAt w0 W p lp ln lc tp tn tc rp rn rc bb ba bf bq bs) (hd : ChD w0.heap.size bb ba bf bq bs) (hn : Near (chS bf bq bs) W W') : ChAt w0 W' p lp ln lc tp tn tc rp rn rc bb ba bf bq bs :=
  ⟨h.w.trans (hn.below h.w.size fun k hk hS => by have := hd.f; have := hd.q; have := hd.s; unfold chS at hS; omega), h.b.far hn hd.b, h.a.far hn hd.a⟩
theorem combF_pre (f : Nat → Bool) (b m s : Nat) (pre : List Int) : (combF f b (m + 1) s).map (fun y => pre ++ y) = (List.range' s (b - s)).flatMap fun j => if f j = true then (combF f b m (j + 1)).map fun y => pre ++ ((j : Int) :: y) else [] := by
  rw [combF, List.map_flatMap]
  congr 1
  funext i
  split
  · simp [Function.comp_def]
  · rfl
theorem combF_go {σ : Type} (f : Nat → Bool) (g : σ → List Int → σ) (b m i : Nat) (pre : List Int) (s : σ) (h : i < b) :
    ((List.range' i (b - i)).flatMap fun j => if f j = true then (combF f b m (j + 1)).map fun y => pre ++ ((j : Int) :: y) else []).foldl g s =
      ((List.range' (i + 1) (b - (i + 1))).flatMap fun j => if f j = true then (combF f b m (j + 1)).map fun y => pre ++ ((j : Int) :: y) else []).foldl g (if f i = true then ((combF f b m (i + 1)).map fun y => (pre ++ [(i : Int)]) ++ y).foldl g s else s) := by
  have e : b - i = (b - (i + 1)) + 1 := by omega
  rw [e, List.range'_succ, List.flatMap_cons, List.foldl_append]
  congr 1
  cases f i
  · rfl
  · simp [List.append_assoc]

set_option maxRecDepth 100000 in
set_option maxHeartbeats 16000000 in
theorem cheap92_any (bb ba bf bq bs : Nat) (p : Prg) (lp : Option Addr) (ln lc : Nat) (tp : Option Addr) (tn tc : Nat) (rp : Option Addr) (rn rc : Nat) (w0 : World) (hD : ChD w0.heap.size bb ba bf bq bs) (hp : PrgAt w0 p lp ln tp tn rp rn) (ok : OkP p) :
    ∀ (m s : Nat) (pre : List Int) (q : Option Addr) (k c : Nat) (W : World) (st : Option (List Int)), ChAt w0 W p lp ln lc tp tn tc rp rn rc bb ba bf bq bs → ChSt p.ts bf bq bs W st → QS (chS bf bq bs) W q k pre → s ≤ p.ts.length → pre.length ≤ s → InTs p.ts.length pre → pre.length + m ≤ 100 →
      Calls Try.prog 92 #[.slice q k c, .int .i64 s, .int .i64 m, .pointer (some ⟨bb, 0, none⟩), .pointer (some ⟨bf, 0, none⟩), .pointer (some ⟨bq, 0, none⟩), .pointer (some ⟨bs, 0, none⟩), .pointer (some ⟨ba, 0, none⟩)] W (fun e W' => (∃ v, e = .returned v) ∧ Near (chS bf bq bs) W W' ∧ ChSt p.ts bf bq bs W' (((combF (freeN p.ts) p.ts.length m s).map fun y => pre ++ y).foldl (chStep (priceL p.ts) (sufB p)) st)) := by
  intro m
  induction m with
  | zero =>
    intro s pre q k c W st hL hS hQ hs hps hin hpm
    have hres : ((combF (freeN p.ts) p.ts.length 0 s).map fun y => pre ++ y).foldl (chStep (priceL p.ts) (sufB p)) st = (chStep (priceL p.ts) (sufB p) st pre) := by simp [combF]
    rw [hres]
    clear hres
    have HD := hid hD; have HL := hid hL; have HS := hid hS; have HQ := hid hQ; have HIN := hid hin; have HOK := hid ok
    have HPG := hid (hp.below hL.w)
    have hk100 : k ≤ 100 := by have := hQ.1.1; omega
    obtain ⟨qs, ks, cs, hb1, hb2⟩ := hS.s
    have HB1 := hid hb1; have HB2 := hid hb2
    have HQ1 := hid hQ.1
    have HPR := hid ok.prices
    clear hL hS hQ hin hb1 hb2
    have c0 := (HL.out.b.2 0 _ rfl).1; have c1 := (HL.out.b.2 1 _ rfl).1; have c2 := (HL.out.b.2 2 _ rfl).1; have c3 := (HL.out.b.2 3 _ rfl).1
    go_enter Try.func92, Try.ntmps92
    go_wp2_with fail
    (with_reducible refine (price91_any p lp ln lc tp tn tc rp rn rc q k c pre _ HPG.out HQ1.out (by omega) HIN.out HPR.out).mono ?_)
    rintro e W1 ⟨rfl, hb⟩
    have HL1 := hid (HL.out.near HD.out (near_below hb)); have HPG1 := hid (HPG.out.below hb); have HQ2 := hid (HQ.out.near (near_below hb)); have HQ3 := hid HQ2.out.1; have HN1 : Hid (Near (chS bf bq bs) W W1) := hid (near_below hb)
    have HF1 := hid (HS.out.f.below hb); have HQQ1 := hid (HS.out.q.below hb); have HB3 := hid (HB1.out.below hb)
    have HB4 : Hid (∀ X, st = some X → QS (chS bf bq bs) W1 qs ks X) := hid (fun X hX => (HB2.out X hX).near (near_below hb))
    clear HL HPG HQ HQ1 HS HB1 HB2 hb c0 c1 c2 c3
    obtain ⟨pz, hpz⟩ : ∃ z, priceL p.ts pre = z := ⟨_, rfl⟩
    rw [hpz]
    have HPZ := hid hpz
    clear hpz
    obtain ⟨kl, hkl⟩ : ∃ z, (keptX p pre).lo = z := ⟨_, rfl⟩
    obtain ⟨kh, hkh⟩ : ∃ z, (keptX p pre).hi = z := ⟨_, rfl⟩
    have HSUF : Hid (sufB p pre = decide (kh ≤ p.reserve)) := hid (by rw [sufB, hkh])
    have HKEEP : Hid (∀ V, Below W1.heap.size W1 V → Calls Try.prog 90 #[.agg #[.slice lp ln lc, .int .i64 p.reserve, .slice tp tn tc, .slice rp rn rc], .slice q k c] V fun e w' => e = .returned (.agg #[.int .i64 kl, .int .i64 kh]) ∧ Below V.heap.size V w') := hid (fun V hV => by have h := kept90_any p lp ln lc tp tn tc rp rn rc q k c pre V (HPG1.out.below hV) (HQ2.out.near (near_below hV)).1 (by omega) HIN.out HOK.out; rw [hkl, hkh] at h; exact h)
    clear hkl hkh
    have HCF : Hid (∀ V, Below W1.heap.size W1 V → V.cell? ⟨bf, 0, none⟩ = some (.bool st.isSome)) := hid (fun V hV => ((HF1.out.below hV).2 0 _ rfl).1)
    have HCQ : Hid (∀ V, Below W1.heap.size W1 V → V.cell? ⟨bq, 0, none⟩ = some (.int .i64 (prO p.ts st))) := hid (fun V hV => ((HQQ1.out.below hV).2 0 _ rfl).1)
    have HCB : Hid (∀ V, Below W1.heap.size W1 V → BoxIs bb #[.slice lp ln lc, .int .i64 p.reserve, .slice tp tn tc, .slice rp rn rc] V) := hid (fun V hV => HL1.out.b.below hV)
    go_upto_region 2 with fail
    cases st with
    | none =>
      have HST : Hid (chStep (priceL p.ts) (sufB p) none pre = if kh ≤ p.reserve then some pre else none) := hid (by show (if sufB p pre = true then some pre else none) = _; rw [HSUF.out]; simp)
      refine wp_region_held_drew (S := fun V => Below W1.heap.size W1 V) (by kernel_rfl) ((Below.refl _ _).drew) (fun hS => ?_)
      simp only [List.size_toArray, List.length_cons, List.length_nil, Nat.reduceAdd, Array.replicate_succ, Array.replicate_zero, List.push_toArray, List.nil_append, List.cons_append]
      refine tkH (i := 0) (v := ?_) (fun V hV => ?_) ?_
      rotate_left
      · have v0 := HCF.out V hV; go_simp
        try with_reducible rfl
      try simp only [Act.put, List.getElem_toArray, List.getElem_cons_zero, List.setIfInBounds_toArray, List.set_cons_zero, List.set_cons_succ]
      refine tkH (i := 1) (v := ?_) (fun V hV => ?_) ?_
      rotate_left
      · go_simp
        try with_reducible rfl
      try simp only [Act.put, List.getElem_toArray, List.getElem_cons_zero, List.getElem_cons_succ, List.setIfInBounds_toArray, List.set_cons_zero, List.set_cons_succ]
      refine tkH (i := 2) (v := ?_) (fun V hV => ?_) ?_
      rotate_left
      · go_simp
        try with_reducible rfl
      try simp only [Act.put, List.getElem_toArray, List.getElem_cons_zero, List.getElem_cons_succ, List.setIfInBounds_toArray, List.set_cons_zero, List.set_cons_succ]
      refine tkU (i := 3) ?_
      try simp only [Act.put, List.getElem_toArray, List.getElem_cons_zero, List.getElem_cons_succ, List.setIfInBounds_toArray, List.set_cons_zero, List.set_cons_succ]
      refine tkU (i := 4) ?_
      try simp only [Act.put, List.getElem_toArray, List.getElem_cons_zero, List.getElem_cons_succ, List.setIfInBounds_toArray, List.set_cons_zero, List.set_cons_succ]
      refine tkU (i := 5) ?_
      try simp only [Act.put, List.getElem_toArray, List.getElem_cons_zero, List.getElem_cons_succ, List.setIfInBounds_toArray, List.set_cons_zero, List.set_cons_succ]
      refine tkH (i := 6) (v := ?_) (fun V hV => ?_) ?_
      rotate_left
      · go_simp
        try with_reducible rfl
      try simp only [Act.put, List.getElem_toArray, List.getElem_cons_zero, List.getElem_cons_succ, List.setIfInBounds_toArray, List.set_cons_zero, List.set_cons_succ]
      refine tkH (i := 7) (v := ?_) (fun V hV => ?_) ?_
      rotate_left
      · go_simp
        try with_reducible rfl
      try simp only [Act.put, List.getElem_toArray, List.getElem_cons_zero, List.getElem_cons_succ, List.setIfInBounds_toArray, List.set_cons_zero, List.set_cons_succ]
      refine tkH (i := 8) (v := ?_) (fun V hV => ?_) ?_
      rotate_left
      · have c0 := ((HCB.out V hV).2 0 _ rfl).1; have c1 := ((HCB.out V hV).2 1 _ rfl).1; have c2 := ((HCB.out V hV).2 2 _ rfl).1; have c3 := ((HCB.out V hV).2 3 _ rfl).1; go_simp
        try with_reducible rfl
      try simp only [Act.put, List.getElem_toArray, List.getElem_cons_zero, List.getElem_cons_succ, List.setIfInBounds_toArray, List.set_cons_zero, List.set_cons_succ]
      refine tkH (i := 9) (v := ?_) (fun V hV => ?_) ?_
      rotate_left
      · go_simp
        try with_reducible rfl
      try simp only [Act.put, List.getElem_toArray, List.getElem_cons_zero, List.getElem_cons_succ, List.setIfInBounds_toArray, List.set_cons_zero, List.set_cons_succ]
      refine tkH (i := 12) (v := ?_) (fun V hV => ?_) ?_
      rotate_left
      · go_simp
        try with_reducible rfl
      try simp only [Act.put, List.getElem_toArray, List.getElem_cons_zero, List.getElem_cons_succ, List.setIfInBounds_toArray, List.set_cons_zero, List.set_cons_succ]
      refine tkH (i := 13) (v := ?_) (fun V hV => ?_) ?_
      rotate_left
      · have c1 := ((HCB.out V hV).2 1 _ rfl).1; go_simp
        try with_reducible rfl
      try simp only [Act.put, List.getElem_toArray, List.getElem_cons_zero, List.getElem_cons_succ, List.setIfInBounds_toArray, List.set_cons_zero, List.set_cons_succ]
      refine wpAnyH_ready (rs := [10]) (by kernel_rfl) (by simp) ?_
      refine AllReadyH.cons (o := _) rfl (fun K hK => ?_) AllReadyH.nil
      go_simp
      (with_reducible refine (HKEEP.out _ hS).mono ?_)
      rintro e V2 ⟨rfl, hb2⟩
      refine hK.out _ _ (hS.trans (hb2.mono hS.size)) (fun hS => ?_)
      clear hK K
      try simp only [List.setIfInBounds_toArray, List.set_cons_zero, List.set_cons_succ]
      refine tkH (i := 11) (v := ?_) (fun V hV => ?_) ?_
      rotate_left
      · have q1 := field51 kl kh V; go_simp
        try with_reducible rfl
      try simp only [Act.put, List.getElem_toArray, List.getElem_cons_zero, List.getElem_cons_succ, List.setIfInBounds_toArray, List.set_cons_zero, List.set_cons_succ]
      refine tkH (i := 14) (v := ?_) (fun V hV => ?_) ?_
      rotate_left
      · go_simp
        try with_reducible rfl
      try simp only [Act.put, List.getElem_toArray, List.getElem_cons_zero, List.getElem_cons_succ, List.setIfInBounds_toArray, List.set_cons_zero, List.set_cons_succ]
      refine tkH (i := 15) (v := ?_) (fun V hV => ?_) ?_
      rotate_left
      · go_simp
        try with_reducible rfl
      try simp only [Act.put, List.getElem_toArray, List.getElem_cons_zero, List.getElem_cons_succ, List.setIfInBounds_toArray, List.set_cons_zero, List.set_cons_succ]
      refine wpAnyH_done (by kernel_rfl) ?_ _
      by_cases hk9 : kh ≤ p.reserve
      · skip
        have hx := HB3.out.below hS; have hy := HQQ1.out.below hS; have hz := HF1.out.below hS
        have hDo := HD.out
        have hne1 := hDo.fq; have hne2 := hDo.fs; have hne3 := hDo.qs
        have hX : BoxIs bs #[.slice q k c] (((V2.setCell ⟨bs, 0, none⟩ (.slice q k c)).setCell ⟨bq, 0, none⟩ (.int .i64 pz)).setCell ⟨bf, 0, none⟩ (.bool true)) := ((hx.put (j := 0) (.slice q k c)).other (fun e => hne3 e.symm) _).other (fun e => hne2 e.symm) _
        have hY0 := hy.other (b' := bs) (k' := 0) hne3 (.slice q k c)
        have hY : BoxIs bq #[.int .i64 pz] (((V2.setCell ⟨bs, 0, none⟩ (.slice q k c)).setCell ⟨bq, 0, none⟩ (.int .i64 pz)).setCell ⟨bf, 0, none⟩ (.bool true)) := (hY0.put (j := 0) (.int .i64 pz)).other (fun e => hne1 e.symm) _
        have hZ0 := (hz.other (b' := bs) (k' := 0) hne2 (.slice q k c)).other (b' := bq) (k' := 0) hne1 (.int .i64 pz)
        have hZ : BoxIs bf #[.bool true] (((V2.setCell ⟨bs, 0, none⟩ (.slice q k c)).setCell ⟨bq, 0, none⟩ (.int .i64 pz)).setCell ⟨bf, 0, none⟩ (.bool true)) := hZ0.put (j := 0) (.bool true)
        have hN : Near (chS bf bq bs) W1 (((V2.setCell ⟨bs, 0, none⟩ (.slice q k c)).setCell ⟨bq, 0, none⟩ (.int .i64 pz)).setCell ⟨bf, 0, none⟩ (.bool true)) := (((near_below hS).setCell (p := ⟨bs, 0, none⟩) (fun _ => .inr (.inr rfl)) _).setCell (p := ⟨bq, 0, none⟩) (fun _ => .inr (.inl rfl)) _).setCell (p := ⟨bf, 0, none⟩) (fun _ => .inl rfl) _
        have x0 := (hx.2 0 _ rfl).1; have x1 := (hx.2 0 _ rfl).2; have y0 := (hY0.2 0 _ rfl).1; have y1 := (hY0.2 0 _ rfl).2; have z0 := (hZ0.2 0 _ rfl).1; have z1 := (hZ0.2 0 _ rfl).2
        obtain ⟨W9, hW9⟩ : ∃ V, (((V2.setCell ⟨bs, 0, none⟩ (.slice q k c)).setCell ⟨bq, 0, none⟩ (.int .i64 pz)).setCell ⟨bf, 0, none⟩ (.bool true)) = V := ⟨_, rfl⟩
        rw [hW9] at hX hY hZ hN
        have HX := hid hX; have HY := hid hY; have HZ := hid hZ; have HN := hid hN
        clear hX hY hZ hN hx hy hz HB3 HQQ1 HF1 hY0 hZ0
        go_wp2_with fail
        first | refine bodyPost_end (results_none rfl _ _ _) rfl ?_ | refine bodyPost_ret (results_none rfl _ _ _) rfl ?_
        try rw [hW9]
        refine ⟨⟨_, rfl⟩, HN1.out.trans HN.out, ?_⟩
        rw [show chStep (priceL p.ts) (sufB p) (none) pre = some pre from by rw [HST.out, if_pos hk9]]
        refine ⟨HZ.out, ?_, q, k, c, HX.out, fun X hX => ?_⟩
        · rw [prO, HPZ.out]; exact HY.out
        · cases hX; exact HQ2.out.near HN.out
      · skip
        go_wp2_with fail
        first | refine bodyPost_end (results_none rfl _ _ _) rfl ?_ | refine bodyPost_ret (results_none rfl _ _ _) rfl ?_
        refine ⟨⟨_, rfl⟩, HN1.out.trans (near_below hS), ?_⟩
        rw [show chStep (priceL p.ts) (sufB p) (none) pre = none from by rw [HST.out, if_neg (by omega)]]
        exact ⟨HF1.out.below hS, HQQ1.out.below hS, qs, ks, cs, HB3.out.below hS, fun X hX => (HB4.out X hX).near (near_below hS)⟩
    | some X =>
      have HST : Hid (chStep (priceL p.ts) (sufB p) (some X) pre = if pz < priceL p.ts X ∧ kh ≤ p.reserve then some pre else some X) := hid (by show (if priceL p.ts pre < priceL p.ts X ∧ sufB p pre = true then some pre else some X) = _; rw [HSUF.out, HPZ.out]; simp)
      obtain ⟨px, hpx⟩ : ∃ z, priceL p.ts X = z := ⟨_, rfl⟩
      have hpo : prO p.ts (some X) = px := hpx
      rw [hpo] at HCQ
      rw [hpx] at HST
      by_cases hlt : pz < px
      · skip
        refine wp_region_held_drew (S := fun V => Below W1.heap.size W1 V) (by kernel_rfl) ((Below.refl _ _).drew) (fun hS => ?_)
        simp only [List.size_toArray, List.length_cons, List.length_nil, Nat.reduceAdd, Array.replicate_succ, Array.replicate_zero, List.push_toArray, List.nil_append, List.cons_append]
        refine tkH (i := 0) (v := ?_) (fun V hV => ?_) ?_
        rotate_left
        · have v0 := HCF.out V hV; go_simp
          try with_reducible rfl
        try simp only [Act.put, List.getElem_toArray, List.getElem_cons_zero, List.setIfInBounds_toArray, List.set_cons_zero, List.set_cons_succ]
        refine tkH (i := 1) (v := ?_) (fun V hV => ?_) ?_
        rotate_left
        · go_simp
          try with_reducible rfl
        try simp only [Act.put, List.getElem_toArray, List.getElem_cons_zero, List.getElem_cons_succ, List.setIfInBounds_toArray, List.set_cons_zero, List.set_cons_succ]
        refine tkH (i := 2) (v := ?_) (fun V hV => ?_) ?_
        rotate_left
        · go_simp
          try with_reducible rfl
        try simp only [Act.put, List.getElem_toArray, List.getElem_cons_zero, List.getElem_cons_succ, List.setIfInBounds_toArray, List.set_cons_zero, List.set_cons_succ]
        refine tkH (i := 3) (v := ?_) (fun V hV => ?_) ?_
        rotate_left
        · go_simp
          try with_reducible rfl
        try simp only [Act.put, List.getElem_toArray, List.getElem_cons_zero, List.getElem_cons_succ, List.setIfInBounds_toArray, List.set_cons_zero, List.set_cons_succ]
        refine tkH (i := 4) (v := ?_) (fun V hV => ?_) ?_
        rotate_left
        · have v0 := HCQ.out V hV; go_simp
          try with_reducible rfl
        try simp only [Act.put, List.getElem_toArray, List.getElem_cons_zero, List.getElem_cons_succ, List.setIfInBounds_toArray, List.set_cons_zero, List.set_cons_succ]
        refine tkH (i := 5) (v := ?_) (fun V hV => ?_) ?_
        rotate_left
        · go_simp
          try with_reducible rfl
        try simp only [Act.put, List.getElem_toArray, List.getElem_cons_zero, List.getElem_cons_succ, List.setIfInBounds_toArray, List.set_cons_zero, List.set_cons_succ]
        refine tkH (i := 6) (v := ?_) (fun V hV => ?_) ?_
        rotate_left
        · go_simp
          try with_reducible rfl
        try simp only [Act.put, List.getElem_toArray, List.getElem_cons_zero, List.getElem_cons_succ, List.setIfInBounds_toArray, List.set_cons_zero, List.set_cons_succ]
        refine tkH (i := 7) (v := ?_) (fun V hV => ?_) ?_
        rotate_left
        · go_simp
          try with_reducible rfl
        try simp only [Act.put, List.getElem_toArray, List.getElem_cons_zero, List.getElem_cons_succ, List.setIfInBounds_toArray, List.set_cons_zero, List.set_cons_succ]
        refine tkH (i := 8) (v := ?_) (fun V hV => ?_) ?_
        rotate_left
        · have c0 := ((HCB.out V hV).2 0 _ rfl).1; have c1 := ((HCB.out V hV).2 1 _ rfl).1; have c2 := ((HCB.out V hV).2 2 _ rfl).1; have c3 := ((HCB.out V hV).2 3 _ rfl).1; go_simp
          try with_reducible rfl
        try simp only [Act.put, List.getElem_toArray, List.getElem_cons_zero, List.getElem_cons_succ, List.setIfInBounds_toArray, List.set_cons_zero, List.set_cons_succ]
        refine tkH (i := 9) (v := ?_) (fun V hV => ?_) ?_
        rotate_left
        · go_simp
          try with_reducible rfl
        try simp only [Act.put, List.getElem_toArray, List.getElem_cons_zero, List.getElem_cons_succ, List.setIfInBounds_toArray, List.set_cons_zero, List.set_cons_succ]
        refine tkH (i := 12) (v := ?_) (fun V hV => ?_) ?_
        rotate_left
        · go_simp
          try with_reducible rfl
        try simp only [Act.put, List.getElem_toArray, List.getElem_cons_zero, List.getElem_cons_succ, List.setIfInBounds_toArray, List.set_cons_zero, List.set_cons_succ]
        refine tkH (i := 13) (v := ?_) (fun V hV => ?_) ?_
        rotate_left
        · have c1 := ((HCB.out V hV).2 1 _ rfl).1; go_simp
          try with_reducible rfl
        try simp only [Act.put, List.getElem_toArray, List.getElem_cons_zero, List.getElem_cons_succ, List.setIfInBounds_toArray, List.set_cons_zero, List.set_cons_succ]
        refine wpAnyH_ready (rs := [10]) (by kernel_rfl) (by simp) ?_
        refine AllReadyH.cons (o := _) rfl (fun K hK => ?_) AllReadyH.nil
        go_simp
        (with_reducible refine (HKEEP.out _ hS).mono ?_)
        rintro e V2 ⟨rfl, hb2⟩
        refine hK.out _ _ (hS.trans (hb2.mono hS.size)) (fun hS => ?_)
        clear hK K
        try simp only [List.setIfInBounds_toArray, List.set_cons_zero, List.set_cons_succ]
        refine tkH (i := 11) (v := ?_) (fun V hV => ?_) ?_
        rotate_left
        · have q1 := field51 kl kh V; go_simp
          try with_reducible rfl
        try simp only [Act.put, List.getElem_toArray, List.getElem_cons_zero, List.getElem_cons_succ, List.setIfInBounds_toArray, List.set_cons_zero, List.set_cons_succ]
        refine tkH (i := 14) (v := ?_) (fun V hV => ?_) ?_
        rotate_left
        · go_simp
          try with_reducible rfl
        try simp only [Act.put, List.getElem_toArray, List.getElem_cons_zero, List.getElem_cons_succ, List.setIfInBounds_toArray, List.set_cons_zero, List.set_cons_succ]
        refine tkH (i := 15) (v := ?_) (fun V hV => ?_) ?_
        rotate_left
        · go_simp
          try with_reducible rfl
        try simp only [Act.put, List.getElem_toArray, List.getElem_cons_zero, List.getElem_cons_succ, List.setIfInBounds_toArray, List.set_cons_zero, List.set_cons_succ]
        refine wpAnyH_done (by kernel_rfl) ?_ _
        by_cases hk9 : kh ≤ p.reserve
        · skip
          have hx := HB3.out.below hS; have hy := HQQ1.out.below hS; have hz := HF1.out.below hS
          have hDo := HD.out
          have hne1 := hDo.fq; have hne2 := hDo.fs; have hne3 := hDo.qs
          have hX : BoxIs bs #[.slice q k c] (((V2.setCell ⟨bs, 0, none⟩ (.slice q k c)).setCell ⟨bq, 0, none⟩ (.int .i64 pz)).setCell ⟨bf, 0, none⟩ (.bool true)) := ((hx.put (j := 0) (.slice q k c)).other (fun e => hne3 e.symm) _).other (fun e => hne2 e.symm) _
          have hY0 := hy.other (b' := bs) (k' := 0) hne3 (.slice q k c)
          have hY : BoxIs bq #[.int .i64 pz] (((V2.setCell ⟨bs, 0, none⟩ (.slice q k c)).setCell ⟨bq, 0, none⟩ (.int .i64 pz)).setCell ⟨bf, 0, none⟩ (.bool true)) := (hY0.put (j := 0) (.int .i64 pz)).other (fun e => hne1 e.symm) _
          have hZ0 := (hz.other (b' := bs) (k' := 0) hne2 (.slice q k c)).other (b' := bq) (k' := 0) hne1 (.int .i64 pz)
          have hZ : BoxIs bf #[.bool true] (((V2.setCell ⟨bs, 0, none⟩ (.slice q k c)).setCell ⟨bq, 0, none⟩ (.int .i64 pz)).setCell ⟨bf, 0, none⟩ (.bool true)) := hZ0.put (j := 0) (.bool true)
          have hN : Near (chS bf bq bs) W1 (((V2.setCell ⟨bs, 0, none⟩ (.slice q k c)).setCell ⟨bq, 0, none⟩ (.int .i64 pz)).setCell ⟨bf, 0, none⟩ (.bool true)) := (((near_below hS).setCell (p := ⟨bs, 0, none⟩) (fun _ => .inr (.inr rfl)) _).setCell (p := ⟨bq, 0, none⟩) (fun _ => .inr (.inl rfl)) _).setCell (p := ⟨bf, 0, none⟩) (fun _ => .inl rfl) _
          have x0 := (hx.2 0 _ rfl).1; have x1 := (hx.2 0 _ rfl).2; have y0 := (hY0.2 0 _ rfl).1; have y1 := (hY0.2 0 _ rfl).2; have z0 := (hZ0.2 0 _ rfl).1; have z1 := (hZ0.2 0 _ rfl).2
          obtain ⟨W9, hW9⟩ : ∃ V, (((V2.setCell ⟨bs, 0, none⟩ (.slice q k c)).setCell ⟨bq, 0, none⟩ (.int .i64 pz)).setCell ⟨bf, 0, none⟩ (.bool true)) = V := ⟨_, rfl⟩
          rw [hW9] at hX hY hZ hN
          have HX := hid hX; have HY := hid hY; have HZ := hid hZ; have HN := hid hN
          clear hX hY hZ hN hx hy hz HB3 HQQ1 HF1 hY0 hZ0
          go_wp2_with fail
          first | refine bodyPost_end (results_none rfl _ _ _) rfl ?_ | refine bodyPost_ret (results_none rfl _ _ _) rfl ?_
          try rw [hW9]
          refine ⟨⟨_, rfl⟩, HN1.out.trans HN.out, ?_⟩
          rw [show chStep (priceL p.ts) (sufB p) (some X) pre = some pre from by rw [HST.out, if_pos ⟨hlt, hk9⟩]]
          refine ⟨HZ.out, ?_, q, k, c, HX.out, fun X hX => ?_⟩
          · rw [prO, HPZ.out]; exact HY.out
          · cases hX; exact HQ2.out.near HN.out
        · skip
          go_wp2_with fail
          first | refine bodyPost_end (results_none rfl _ _ _) rfl ?_ | refine bodyPost_ret (results_none rfl _ _ _) rfl ?_
          refine ⟨⟨_, rfl⟩, HN1.out.trans (near_below hS), ?_⟩
          rw [show chStep (priceL p.ts) (sufB p) (some X) pre = some X from by rw [HST.out, if_neg (by omega)]]
          exact ⟨HF1.out.below hS, HQQ1.out.below hS, qs, ks, cs, HB3.out.below hS, fun X hX => (HB4.out X hX).near (near_below hS)⟩
      · skip
        refine wp_region_held_drew (S := fun V => Below W1.heap.size W1 V) (by kernel_rfl) ((Below.refl _ _).drew) (fun hS => ?_)
        simp only [List.size_toArray, List.length_cons, List.length_nil, Nat.reduceAdd, Array.replicate_succ, Array.replicate_zero, List.push_toArray, List.nil_append, List.cons_append]
        refine tkH (i := 0) (v := ?_) (fun V hV => ?_) ?_
        rotate_left
        · have v0 := HCF.out V hV; go_simp
          try with_reducible rfl
        try simp only [Act.put, List.getElem_toArray, List.getElem_cons_zero, List.setIfInBounds_toArray, List.set_cons_zero, List.set_cons_succ]
        refine tkH (i := 1) (v := ?_) (fun V hV => ?_) ?_
        rotate_left
        · go_simp
          try with_reducible rfl
        try simp only [Act.put, List.getElem_toArray, List.getElem_cons_zero, List.getElem_cons_succ, List.setIfInBounds_toArray, List.set_cons_zero, List.set_cons_succ]
        refine tkH (i := 2) (v := ?_) (fun V hV => ?_) ?_
        rotate_left
        · go_simp
          try with_reducible rfl
        try simp only [Act.put, List.getElem_toArray, List.getElem_cons_zero, List.getElem_cons_succ, List.setIfInBounds_toArray, List.set_cons_zero, List.set_cons_succ]
        refine tkH (i := 3) (v := ?_) (fun V hV => ?_) ?_
        rotate_left
        · go_simp
          try with_reducible rfl
        try simp only [Act.put, List.getElem_toArray, List.getElem_cons_zero, List.getElem_cons_succ, List.setIfInBounds_toArray, List.set_cons_zero, List.set_cons_succ]
        refine tkH (i := 4) (v := ?_) (fun V hV => ?_) ?_
        rotate_left
        · have v0 := HCQ.out V hV; go_simp
          try with_reducible rfl
        try simp only [Act.put, List.getElem_toArray, List.getElem_cons_zero, List.getElem_cons_succ, List.setIfInBounds_toArray, List.set_cons_zero, List.set_cons_succ]
        refine tkH (i := 5) (v := ?_) (fun V hV => ?_) ?_
        rotate_left
        · go_simp
          try with_reducible rfl
        try simp only [Act.put, List.getElem_toArray, List.getElem_cons_zero, List.getElem_cons_succ, List.setIfInBounds_toArray, List.set_cons_zero, List.set_cons_succ]
        refine tkH (i := 6) (v := ?_) (fun V hV => ?_) ?_
        rotate_left
        · go_simp
          try with_reducible rfl
        try simp only [Act.put, List.getElem_toArray, List.getElem_cons_zero, List.getElem_cons_succ, List.setIfInBounds_toArray, List.set_cons_zero, List.set_cons_succ]
        refine tkH (i := 7) (v := ?_) (fun V hV => ?_) ?_
        rotate_left
        · go_simp
          try with_reducible rfl
        try simp only [Act.put, List.getElem_toArray, List.getElem_cons_zero, List.getElem_cons_succ, List.setIfInBounds_toArray, List.set_cons_zero, List.set_cons_succ]
        refine tkU (i := 8) ?_
        try simp only [Act.put, List.getElem_toArray, List.getElem_cons_zero, List.getElem_cons_succ, List.setIfInBounds_toArray, List.set_cons_zero, List.set_cons_succ]
        refine tkU (i := 9) ?_
        try simp only [Act.put, List.getElem_toArray, List.getElem_cons_zero, List.getElem_cons_succ, List.setIfInBounds_toArray, List.set_cons_zero, List.set_cons_succ]
        refine tkU (i := 10) ?_
        try simp only [Act.put, List.getElem_toArray, List.getElem_cons_zero, List.getElem_cons_succ, List.setIfInBounds_toArray, List.set_cons_zero, List.set_cons_succ]
        refine tkU (i := 11) ?_
        try simp only [Act.put, List.getElem_toArray, List.getElem_cons_zero, List.getElem_cons_succ, List.setIfInBounds_toArray, List.set_cons_zero, List.set_cons_succ]
        refine tkU (i := 12) ?_
        try simp only [Act.put, List.getElem_toArray, List.getElem_cons_zero, List.getElem_cons_succ, List.setIfInBounds_toArray, List.set_cons_zero, List.set_cons_succ]
        refine tkU (i := 13) ?_
        try simp only [Act.put, List.getElem_toArray, List.getElem_cons_zero, List.getElem_cons_succ, List.setIfInBounds_toArray, List.set_cons_zero, List.set_cons_succ]
        refine tkU (i := 14) ?_
        try simp only [Act.put, List.getElem_toArray, List.getElem_cons_zero, List.getElem_cons_succ, List.setIfInBounds_toArray, List.set_cons_zero, List.set_cons_succ]
        refine tkH (i := 15) (v := ?_) (fun V hV => ?_) ?_
        rotate_left
        · go_simp
          try with_reducible rfl
        try simp only [Act.put, List.getElem_toArray, List.getElem_cons_zero, List.getElem_cons_succ, List.setIfInBounds_toArray, List.set_cons_zero, List.set_cons_succ]
        refine wpAnyH_done (by kernel_rfl) ?_ _
        go_wp2_with fail
        first | refine bodyPost_end (results_none rfl _ _ _) rfl ?_ | refine bodyPost_ret (results_none rfl _ _ _) rfl ?_
        refine ⟨⟨_, rfl⟩, HN1.out.trans (near_below hS), ?_⟩
        rw [show chStep (priceL p.ts) (sufB p) (some X) pre = some X from by rw [HST.out, if_neg (by omega)]]
        exact ⟨HF1.out.below hS, HQQ1.out.below hS, qs, ks, cs, HB3.out.below hS, fun X hX => (HB4.out X hX).near (near_below hS)⟩
  | succ m ih =>
    intro s pre q k c W st hL hS hQ hs hps hin hpm
    have HD := hid hD; have HL := hid hL; have HS := hid hS; have HQ := hid hQ; have HIN := hid hin; have HOK := hid ok; have HIH := hid ih
    have HPG := hid (hp.below hL.w)
    have hk100 : k ≤ 100 := by have := hQ.1.1; omega
    have htl : tn = p.ts.length := hp.t.1
    have hm5 : p.ts.length ≤ 5 := ok.m5
    have HTL := hid htl
    clear htl
    have hm1 : (((m : Int) + 1) == 0) = false := by simp; omega
    have hmB : m ≤ 100 := by omega
    rw [combF_pre]
    obtain ⟨tot, htot⟩ : ∃ tot, ((List.range' (s) (p.ts.length - (s))).flatMap fun j => if freeN p.ts j = true then (combF (freeN p.ts) p.ts.length m (j + 1)).map fun y => pre ++ ((j : Int) :: y) else []).foldl (chStep (priceL p.ts) (sufB p)) st = tot := ⟨_, rfl⟩
    rw [htot]
    have HTOT := hid htot
    rw [show ((m + 1 : Nat) : Int) = (m : Int) + 1 by push_cast; rfl]
    clear hL hS hQ hin htot ih
    go_enter Try.func92, Try.ntmps92
    go_wp2_with fail
    go_loopw [12] (fun x wr => ∃ (i : Nat) (sx : Option (List Int)), s ≤ i ∧ i ≤ p.ts.length ∧ x = .int .i64 i ∧ Near (chS bf bq bs) W wr ∧ ChSt p.ts bf bq bs wr sx ∧ ((List.range' (i) (p.ts.length - (i))).flatMap fun j => if freeN p.ts j = true then (combF (freeN p.ts) p.ts.length m (j + 1)).map fun y => pre ++ ((j : Int) :: y) else []).foldl (chStep (priceL p.ts) (sufB p)) sx = tot) (fun x _ => p.ts.length + 1 - (intOf x).toNat)
    case atStart => exact ⟨s, st, Nat.le_refl _, hs, rfl, Near.refl _ _, HS.out, HTOT.out⟩
    case round =>
      obtain ⟨i, sx, hi1, hi2, rfl, hnr, hsx, hr⟩ := hrel
      have HNR := hid hnr; have HR := hid hr; have HSX := hid hsx
      have HLR := hid (HL.out.near HD.out hnr)
      have HQR := hid (HQ.out.near hnr)
      have HPR := hid (hp.below HLR.out.w)
      have c2 := (HLR.out.b.2 2 _ rfl).1
      clear hnr hr hsx
      by_cases hlt : i < p.ts.length
      · skip
        have hit : (i : Int) < (tn : Int) := by have := HTL.out; omega
        obtain ⟨t, ht, b3, o3, rfl, hb3, d0, d1, d2, d3, d4, d5, d6⟩ := HPR.out.t.tre (by have := HTL.out; omega : i < tn)
        have HFI : Hid (freeN p.ts i = decide (t.off < 0)) := hid (by unfold freeN freeI; rw [Int.toNat_natCast, ht])
        have HGO := hid (combF_go (freeN p.ts) (chStep (priceL p.ts) (sufB p)) p.ts.length m i pre sx hlt)
        clear ht
        by_cases hf : t.off < 0
        · skip
          have hfr : freeN p.ts i = true := by rw [HFI.out]; simp [hf]
          rw [if_pos hfr] at HGO
          obtain ⟨sn, hsn⟩ : ∃ z, (((combF (freeN p.ts) p.ts.length m (i + 1)).map fun y => (pre ++ [(i : Int)]) ++ y).foldl (chStep (priceL p.ts) (sufB p)) sx) = z := ⟨_, rfl⟩
          rw [hsn] at HGO
          have HIHR : Hid (∀ (V : World) (g5 cap5 : Nat), Below wr.heap.size wr V → OwnInts V wr.heap.size (.slice (some ⟨g5, 0, none⟩) (pre.length + 1) cap5) (pre ++ [(i : Int)]) → wr.heap.size ≤ g5 → Calls Try.prog 92 #[.slice (some ⟨g5, 0, none⟩) (pre.length + 1) cap5, .int .i64 ((i : Int) + 1), .int .i64 (m : Int), .pointer (some ⟨bb, 0, none⟩), .pointer (some ⟨bf, 0, none⟩), .pointer (some ⟨bq, 0, none⟩), .pointer (some ⟨bs, 0, none⟩), .pointer (some ⟨ba, 0, none⟩)] V (fun e W' => (∃ v, e = .returned v) ∧ Near (chS bf bq bs) V W' ∧ ChSt p.ts bf bq bs W' sn)) := by
            intro V g5 cap5 hV hown hg5
            have hlen : (pre ++ [(i : Int)]).length = pre.length + 1 := by simp
            have hx1 := HSX.out.f.1; have hx2 := HSX.out.q.1; have hx3 : bs < wr.heap.size := by obtain ⟨_, _, _, h, _⟩ := HSX.out.s; exact h.1
            have hq : QS (chS bf bq bs) V (some ⟨g5, 0, none⟩) (pre.length + 1) (pre ++ [(i : Int)]) := by
              obtain ⟨p', c', e, hh⟩ := hown.slice
              rw [hlen] at e hh
              cases e
              refine ⟨hh, fun a ha => ?_⟩
              cases ha
              unfold chS
              show ¬ (g5 = bf ∨ g5 = bq ∨ g5 = bs)
              omega
            have hin2 : InTs p.ts.length (pre ++ [(i : Int)]) := by
              intro a ha
              rcases List.mem_append.1 ha with h | h
              · exact HIN.out a h
              · rw [List.mem_singleton] at h; subst h; omega
            have h := HIH.out (i + 1) (pre ++ [(i : Int)]) (some ⟨g5, 0, none⟩) (pre.length + 1) cap5 V sx (HLR.out.near HD.out (near_below hV)) (HSX.out.below hV) hq (by omega) (by rw [hlen]; omega) hin2 (by rw [hlen]; omega)
            rw [hsn] at h
            rw [show ((i + 1 : Nat) : Int) = (i : Int) + 1 by push_cast; rfl] at h
            exact h
          clear hsn hfr
          have HV : Hid (∀ V, Near (chS bf bq bs) wr V → V.cell? ⟨ba, 0, none⟩ = some (.func (.func 92) #[] #[.pointer (some ⟨bb, 0, none⟩), .pointer (some ⟨bf, 0, none⟩), .pointer (some ⟨bq, 0, none⟩), .pointer (some ⟨bs, 0, none⟩), .pointer (some ⟨ba, 0, none⟩)])) := hid (fun V hV => ((HLR.out.a.far hV HD.out.a).2 0 _ rfl).1)
          have hw1 : IntKind.i64.wrap ((i : Int) + 1) = (i : Int) + 1 := IntWalk.i64_in _ (by omega)
          have hw2 : IntKind.i64.wrap (m : Int) = (m : Int) := IntWalk.i64_in _ (by omega)
          go_upto_region 8 with fail
          clear c2 d0 d1 d2 d3 d4 d5 d6
          have hBl : Below wr.heap.size wr wr.drew := (Below.refl _ _).drew
          refine wp_region_held_drew (S := fun V => Near (chS bf bq bs) wr V) (by kernel_rfl) ((Near.refl _ _).drew) (fun hS => ?_)
          simp only [List.size_toArray, List.length_cons, List.length_nil, Nat.reduceAdd, Array.replicate_succ, Array.replicate_zero, List.push_toArray, List.nil_append, List.cons_append]
          refine tkH (i := 0) (v := ?_) (fun V hV => ?_) ?_
          rotate_left
          · have v0 := HV.out V hV; go_simp
            try with_reducible rfl
          try simp only [Act.put, List.getElem_toArray, List.getElem_cons_zero, List.setIfInBounds_toArray, List.set_cons_zero, List.set_cons_succ]
          refine tkH (i := 1) (v := ?_) (fun V hV => ?_) ?_
          rotate_left
          · go_simp
            try with_reducible rfl
          try simp only [Act.put, List.getElem_toArray, List.getElem_cons_zero, List.getElem_cons_succ, List.setIfInBounds_toArray, List.set_cons_zero, List.set_cons_succ]
          refine tkH (i := 3) (v := ?_) (fun V hV => ?_) ?_
          rotate_left
          · go_simp
            try with_reducible rfl
          try simp only [Act.put, List.getElem_toArray, List.getElem_cons_zero, List.getElem_cons_succ, List.setIfInBounds_toArray, List.set_cons_zero, List.set_cons_succ]
          refine tkH (i := 6) (v := ?_) (fun V hV => ?_) ?_
          rotate_left
          · go_simp
            try with_reducible rfl
          try simp only [Act.put, List.getElem_toArray, List.getElem_cons_zero, List.getElem_cons_succ, List.setIfInBounds_toArray, List.set_cons_zero, List.set_cons_succ]
          refine tkH (i := 7) (v := ?_) (fun V hV => ?_) ?_
          rotate_left
          · go_simp
            try with_reducible rfl
          try simp only [Act.put, List.getElem_toArray, List.getElem_cons_zero, List.getElem_cons_succ, List.setIfInBounds_toArray, List.set_cons_zero, List.set_cons_succ]
          refine tkH (i := 8) (v := ?_) (fun V hV => ?_) ?_
          rotate_left
          · go_simp
            try with_reducible rfl
          try simp only [Act.put, List.getElem_toArray, List.getElem_cons_zero, List.getElem_cons_succ, List.setIfInBounds_toArray, List.set_cons_zero, List.set_cons_succ]
          refine tkH (i := 9) (v := ?_) (fun V hV => ?_) ?_
          rotate_left
          · go_simp
            try with_reducible rfl
          try simp only [Act.put, List.getElem_toArray, List.getElem_cons_zero, List.getElem_cons_succ, List.setIfInBounds_toArray, List.set_cons_zero, List.set_cons_succ]
          refine wpAnyH_ready (rs := [2, 4]) (by kernel_rfl) (by simp) ?_
          refine AllReadyH.cons (o := _) rfl (fun K hK => ?_) ?_
          · skip
            have hqp := (HQR.out.near hS).1
            go_simp
            (with_reducible refine (clone_any q k c pre _ hqp (by omega)).mono ?_)
            rintro e V2 ⟨v2, rfl, ho2, hb2⟩
            have hs2 := hS.size
            have hbv := Nat.le_trans hs2 hb2.size
            have hBl := hBl.trans (hb2.mono hBl.size)
            refine hK.out _ _ (hS.trans (near_below hb2)) (fun hS => ?_)
            clear hK K
            try simp only [List.setIfInBounds_toArray, List.set_cons_zero, List.set_cons_succ]
            refine wpAnyH_ready (rs := [4]) (by kernel_rfl) (by simp) ?_
            refine AllReadyH.cons (o := _) rfl (fun K hK => ?_) AllReadyH.nil
            obtain ⟨V4, hV4⟩ : ∃ V4, V2.alloc (.cells #[.int .i64 (i : Int)] 3) = V4 := ⟨_, rfl⟩
            have hx4 : V4.cell? ⟨V2.heap.size, 0, none⟩ = some (.int .i64 (i : Int)) := by rw [← hV4]; exact cell_box V2 _ 3 0 _ rfl
            have hb4 : Below V2.heap.size V2 V4 := by rw [← hV4]; exact (Below.refl _ _).alloc (Nat.le_refl _) _
            have hBl := hBl.trans (hb4.mono hBl.size)
            go_simp
            refine hK.out _ _ (hS.trans (near_below hb4)) (fun hS => ?_)
            clear hK K
            try simp only [List.setIfInBounds_toArray, List.set_cons_zero, List.set_cons_succ]
            refine wpAnyH_ready (rs := [5]) (by kernel_rfl) (by simp) ?_
            refine AllReadyH.cons (o := _) rfl (fun K hK => ?_) AllReadyH.nil
            refine step_append_int (by rfl) (.tmp 53) (.tmp 55) (by rfl) wr.heap.size v2 pre (i : Int) V2.heap.size ((ho2.mono hs2).below hb4) rfl rfl hx4 (by have := HQR.out.1.1; omega) hS.size ?_
            intro g5 cap5 V5 h5 hb5 hg5
            have hBl := hBl.trans hb5
            refine hK.out _ _ (hS.trans' (T := fun k => wr.heap.size ≤ k) (Near.of_below hb5 (fun k h1 h2 => h2)) (fun j h1 h2 => by omega)) (fun hS => ?_)
            clear hK K
            try simp only [Act.put, List.getElem_toArray, List.getElem_cons_zero, List.getElem_cons_succ, List.setIfInBounds_toArray, List.set_cons_zero, List.set_cons_succ]
            refine wpAnyH_ready (rs := [10]) (by kernel_rfl) (by simp) ?_
            refine AllReadyH.cons (o := _) rfl (fun K hK => ?_) AllReadyH.nil
            go_simp
            (with_reducible refine (HIHR.out V5 g5 cap5 hBl h5 hg5).mono ?_)
            rintro e V10 ⟨⟨v, rfl⟩, hn10, hs10⟩
            refine hK.out _ _ (hS.trans hn10) (fun hS => ?_)
            clear hK K
            try simp only [List.setIfInBounds_toArray, List.set_cons_zero, List.set_cons_succ]
            refine wpAnyH_done (by kernel_rfl) ?_ _
            have HS10 := hid (HNR.out.trans hS)
            have HF10 := hid hs10
            have HNX := hid (HGO.out.symm.trans HR.out)
            clear hS hBl hn10 hs10
            go_wp2_with fail
            go_roundw
            case rel => exact ⟨i + 1, sn, by omega, by omega, by go_num, HS10.out, HF10.out, HNX.out⟩
            case measure => simp [intOf]; omega
          refine AllReadyH.cons (o := _) rfl (fun K hK => ?_) AllReadyH.nil
          obtain ⟨V4, hV4⟩ : ∃ V4, (wr.alloc (.cells #[.int .i64 (i : Int)] 3)).drew = V4 := ⟨_, rfl⟩
          have hx4 : V4.cell? ⟨wr.heap.size, 0, none⟩ = some (.int .i64 (i : Int)) := by rw [← hV4]; exact cell_box wr _ 3 0 _ rfl
          have hb4 : Below wr.heap.size wr V4 := by rw [← hV4]; exact ((Below.refl _ _).alloc (Nat.le_refl _) _).drew
          have hBl : Below wr.heap.size wr V4 := hb4
          go_simp
          refine hK.out _ _ (near_below hb4) (fun hS => ?_)
          clear hK K
          try simp only [List.setIfInBounds_toArray, List.set_cons_zero, List.set_cons_succ]
          refine wpAnyH_ready (rs := [2]) (by kernel_rfl) (by simp) ?_
          refine AllReadyH.cons (o := _) rfl (fun K hK => ?_) AllReadyH.nil
          have hqp := (HQR.out.near hS).1
          go_simp
          (with_reducible refine (clone_any q k c pre _ hqp (by omega)).mono ?_)
          rintro e V2 ⟨v2, rfl, ho2, hb2⟩
          have hs2 := hS.size
          have hbv := Nat.le_trans hs2 hb2.size
          have hBl := hBl.trans (hb2.mono hBl.size)
          have hx4 := (hb2.cell (World.block_lt_of_cell? _ _ hx4)).trans hx4
          refine hK.out _ _ (hS.trans (near_below hb2)) (fun hS => ?_)
          clear hK K
          try simp only [List.setIfInBounds_toArray, List.set_cons_zero, List.set_cons_succ]
          refine wpAnyH_ready (rs := [5]) (by kernel_rfl) (by simp) ?_
          refine AllReadyH.cons (o := _) rfl (fun K hK => ?_) AllReadyH.nil
          refine step_append_int (by rfl) (.tmp 53) (.tmp 55) (by rfl) wr.heap.size v2 pre (i : Int) wr.heap.size (ho2.mono hs2) rfl rfl hx4 (by have := HQR.out.1.1; omega) hS.size ?_
          intro g5 cap5 V5 h5 hb5 hg5
          have hBl := hBl.trans hb5
          refine hK.out _ _ (hS.trans' (T := fun k => wr.heap.size ≤ k) (Near.of_below hb5 (fun k h1 h2 => h2)) (fun j h1 h2 => by omega)) (fun hS => ?_)
          clear hK K
          try simp only [Act.put, List.getElem_toArray, List.getElem_cons_zero, List.getElem_cons_succ, List.setIfInBounds_toArray, List.set_cons_zero, List.set_cons_succ]
          refine wpAnyH_ready (rs := [10]) (by kernel_rfl) (by simp) ?_
          refine AllReadyH.cons (o := _) rfl (fun K hK => ?_) AllReadyH.nil
          go_simp
          (with_reducible refine (HIHR.out V5 g5 cap5 hBl h5 hg5).mono ?_)
          rintro e V10 ⟨⟨v, rfl⟩, hn10, hs10⟩
          refine hK.out _ _ (hS.trans hn10) (fun hS => ?_)
          clear hK K
          try simp only [List.setIfInBounds_toArray, List.set_cons_zero, List.set_cons_succ]
          refine wpAnyH_done (by kernel_rfl) ?_ _
          have HS10 := hid (HNR.out.trans hS)
          have HF10 := hid hs10
          have HNX := hid (HGO.out.symm.trans HR.out)
          clear hS hBl hn10 hs10
          go_wp2_with fail
          go_roundw
          case rel => exact ⟨i + 1, sn, by omega, by omega, by go_num, HS10.out, HF10.out, HNX.out⟩
          case measure => simp [intOf]; omega
        · skip
          have hfr : ¬ freeN p.ts i = true := by rw [HFI.out]; simp [hf]
          rw [if_neg hfr] at HGO
          have HNX := hid (HGO.out.symm.trans HR.out)
          have hw1 : IntKind.i64.wrap ((i : Int) + 1) = (i : Int) + 1 := IntWalk.i64_in _ (by omega)
          go_wp2_with fail
          go_roundw
          case rel => exact ⟨i + 1, sx, by omega, by omega, by go_num, HNR.out, HSX.out, HNX.out⟩
          case measure => simp [intOf]; omega
      · have hge : ¬ (i : Int) < (tn : Int) := by have := HTL.out; omega
        have HTX : Hid (tot = sx) := hid (by rw [← HR.out, show p.ts.length - i = 0 by omega]; rfl)
        go_wp2_with fail
        first | refine bodyPost_end (results_none rfl _ _ _) rfl ?_ | refine bodyPost_ret (results_none rfl _ _ _) rfl ?_
        exact ⟨⟨_, rfl⟩, HNR.out, by rw [HTX.out]; exact HSX.out⟩
end Go.Proofs.Ytaioobhblfnlaaa
