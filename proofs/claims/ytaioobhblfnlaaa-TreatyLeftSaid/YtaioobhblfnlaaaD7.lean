/- The statements' helper: a programme with some of its reports. Condition: short lists, few bits. -/
import Derived.Test.YtaioobhblfnlaaaD6
namespace Go.Proofs.Ytaioobhblfnlaaa
open Go.RowKit

theorem Try.info104 : (Try.prog.info? 104).map (fun i => (i.zero, i.size, i.bytes)) = some (some (.agg #[.int .i64 0, .int .i64 0, .int .i64 0]), 3, 24) := by kernel_rfl
theorem Try.und24 : Try.prog.underlying 24 = some (.slice 104) := by kernel_rfl
theorem someR_snoc {l : List Rep} {m : Int} {k : Nat} {x : Rep} (h : l[k]? = some x) : someR l m (k + 1) = someR l m k ++ if bitB m k = true then [x] else [] := by
  rw [someR, h]
def SomePost (p : Prg) (bits : Int) (lp : Option Addr) (ln lc : Nat) (tp : Option Addr) (tn tc : Nat) (w : World) : Ending → World → Prop := fun e w' => ∃ q n d, e = .returned (.agg #[.slice lp ln lc, .int .i64 p.reserve, .slice tp tn tc, .slice q n d]) ∧ PrgAt w' (someP p bits) lp ln tp tn q n ∧ n ≤ d ∧ Below w.heap.size w w'

set_option maxRecDepth 40000 in
set_option maxHeartbeats 8000000 in
theorem some_any (p : Prg) (lp : Option Addr) (ln lc : Nat) (tp : Option Addr) (tn tc : Nat) (rp : Option Addr) (rn rc : Nat) (bits : Int) (w : World) (hp : PrgAt w p lp ln tp tn rp rn) (hn : rn ≤ 9) (h0 : 0 ≤ bits) (h1 : bits < 4096) :
    Calls Try.prog 60 #[.agg #[.slice lp ln lc, .int .i64 p.reserve, .slice tp tn tc, .slice rp rn rc], .int .i64 bits] w (SomePost p bits lp ln lc tp tn tc w) := by
  have HP := hid hp
  have HL := hid hp.r.1
  clear hp
  obtain ⟨W0, hW0⟩ : ∃ V, (((w.alloc (.cells #[.slice lp ln lc, .int .i64 p.reserve, .slice tp tn tc, .slice rp rn rc] 26)).alloc (.cells #[.slice none 0 0, .int .i64 0, .slice none 0 0, .slice none 0 0] 26)).alloc (.cells #[.slice lp ln lc, .int .i64 p.reserve, .slice tp tn tc, .slice rp rn rc] 26)) = V := ⟨_, rfl⟩
  have HB0 : Hid (Boxed1 w #[.slice lp ln lc, .int .i64 p.reserve, .slice tp tn tc, .slice rp rn rc] 26 W0) := hid (by rw [← hW0]; exact ((Boxed1.start _ _ _).alloc _).alloc _)
  have HO0 : Hid (BoxIs (w.heap.size + 1) #[.slice none 0 0, .int .i64 0, .slice none 0 0, .slice none 0 0] W0) := hid (by
    have h := (BoxIs.start (w.alloc (.cells #[.slice lp ln lc, .int .i64 p.reserve, .slice tp tn tc, .slice rp rn rc] 26)) #[.slice none 0 0, .int .i64 0, .slice none 0 0, .slice none 0 0] 26).below ((Below.refl _ _).alloc (Nat.le_refl _) (.cells #[.slice lp ln lc, .int .i64 p.reserve, .slice tp tn tc, .slice rp rn rc] 26))
    rw [World.size_alloc, hW0] at h; exact h)
  have HX0 : Hid (BoxIs (w.heap.size + 2) #[.slice lp ln lc, .int .i64 p.reserve, .slice tp tn tc, .slice rp rn rc] W0) := hid (by
    have h := BoxIs.start ((w.alloc (.cells #[.slice lp ln lc, .int .i64 p.reserve, .slice tp tn tc, .slice rp rn rc] 26)).alloc (.cells #[.slice none 0 0, .int .i64 0, .slice none 0 0, .slice none 0 0] 26)) #[.slice lp ln lc, .int .i64 p.reserve, .slice tp tn tc, .slice rp rn rc] 26
    rw [World.size_alloc, World.size_alloc, hW0] at h; exact h)
  have k0 := (HX0.out.2 3 (.slice rp rn rc) rfl).1; have k1 := (HX0.out.2 3 (.slice rp rn rc) rfl).2
  go_enter Try.func60, Try.ntmps60
  go_upto_region 3 with fail
  have HX1 := hid (HX0.out.put (j := 3) (.slice none 0 0))
  have HO1 := hid (HO0.out.other (b' := w.heap.size + 2) (k' := 3) (by omega) (.slice none 0 0))
  have HB1 := hid (HB0.out.step' ((Below.refl (w.heap.size + 1) W0).setCell (p := ⟨w.heap.size + 2, 3, none⟩) (by show w.heap.size + 1 ≤ w.heap.size + 2; omega) (.slice none 0 0)))
  generalize (W0.setCell ⟨w.heap.size + 2, 3, none⟩ (.slice none 0 0)) = W1 at HX1 HO1 HB1 ⊢
  clear k0 k1 hW0 HX0 HO0 HB0
  go_wp2_with fail
  go_loopw [6] (fun i wr => ∃ k : Nat, k ≤ rn ∧ i = .int .i64 k ∧ (∃ q m d, BoxIs (w.heap.size + 2) #[.slice lp ln lc, .int .i64 p.reserve, .slice tp tn tc, .slice q m d] wr ∧ OwnRows cellsE 3 104 wr (w.heap.size + 3) (.slice q m d) (someR p.reps bits k)) ∧ Boxed1 w #[.slice lp ln lc, .int .i64 p.reserve, .slice tp tn tc, .slice rp rn rc] 26 wr ∧ BoxIs (w.heap.size + 1) #[.slice none 0 0, .int .i64 0, .slice none 0 0, .slice none 0 0] wr) (fun i _ => rn - (intOf i).toNat)
  case atStart => exact ⟨0, by omega, rfl, ⟨none, 0, 0, HX1.out, ownRows_nil _ _ _ _ _⟩, HB1.out, HO1.out⟩
  case round =>
    obtain ⟨k, hk, rfl, ⟨q9, m9, d9, hx, hv⟩, hb, ho⟩ := hrel
    have HXr := hid hx; have HVr := hid hv; have HBr := hid hb; have HOr := hid ho
    have e3 := hb.cell 3 (v := .slice rp rn rc) rfl
    by_cases hlt : k < rn
    · obtain ⟨x, hx7, b1, o1, rfl, hlt1, hc⟩ := (HP.out.r.below hb.below).at hlt
      have HTS := hid (someR_snoc (m := bits) hx7)
      have HLE : Hid ((someR p.reps bits k).length ≤ 1000000) := hid (Nat.le_trans (someR_len _ _ _) (by omega))
      have HCV : Hid (∀ V, Boxed1 w #[.slice lp ln lc, .int .i64 p.reserve, .slice tp tn tc, .slice (some ⟨b1, o1, none⟩) rn rc] 26 V → ∀ j u, (cellsE x)[j]? = some u → V.cell? ⟨b1, o1 + k * 3 + j, none⟩ = some u) := hid (fun V hV j u hj => by
        obtain ⟨x', hx', b2, o2, e2, _, hc2⟩ := (HP.out.r.below hV.below).at hlt
        cases e2
        rw [hx7] at hx'; cases hx'
        exact hc2 j u hj)
      clear hc hx7 hx hv hb ho
      have hdz : 0 ≤ bits / 2 ^ k := Int.ediv_nonneg h0 (by exact_mod_cast Nat.zero_le _)
      have hdl : bits / 2 ^ k < 4096 := by
        have : bits / 2 ^ k ≤ bits := Int.ediv_le_self _ h0
        omega
      have hbt : bitB bits k = (bits / 2 ^ k % 2 == 1) := rfl
      have hmd : (bits / 2 ^ k).tmod 2 = bits / 2 ^ k % 2 := Int.tmod_eq_emod_of_nonneg hdz
      cases hbk : bitB bits k
      · have hq : (bits / 2 ^ k % 2 == 1) = false := by rw [← hbt, hbk]
        rw [hbk] at HTS
        clear hbt hbk
        go_wp2_with fail
        go_roundw
        case rel => exact ⟨k + 1, by omega, by go_num, ⟨_, _, _, HXr.out, by have h := HTS.out; simp only [Bool.false_eq_true, if_false, List.append_nil] at h; rw [h]; exact HVr.out⟩, HBr.out, HOr.out⟩
        case measure => simp [intOf]; omega
      · have hq : (bits / 2 ^ k % 2 == 1) = true := by rw [← hbt, hbk]
        rw [hbk, if_pos rfl] at HTS
        clear hbt hbk
        go_upto_region 7 with fail
        clear e3 hdz hdl hmd hq
        have HXr := hid (HXr.out.below (Below.refl _ _).drew); have HOr := hid (HOr.out.below (Below.refl _ _).drew); have HVr := hid (HVr.out.below (Below.refl _ _).drew)
        refine wp_region_listed (S := fun l V => Boxed1 w #[.slice lp ln lc, .int .i64 p.reserve, .slice tp tn tc, .slice (some ⟨b1, o1, none⟩) rn rc] 26 V ∧ (l.getD 10 true = false → V.cell? ⟨w.heap.size + 2, 3, none⟩ = some (.slice q9 m9 d9))) (by kernel_rfl) (⟨HBr.out.drew, fun _ => (HXr.out.2 3 (.slice q9 m9 d9) rfl).1⟩) (fun hS => ?_)
        simp only [List.size_toArray, List.length_cons, List.length_nil, Nat.reduceAdd, Array.replicate_succ, Array.replicate_zero, List.push_toArray, List.nil_append, List.cons_append]
        generalize wr.drew = Wd at HXr HOr HVr HCV hS ⊢
        refine anyL_take [] (i := 0) (v := ?_) rfl (by kernel_rfl) (by kernel_rfl) (by kernel_rfl) (fun _ _ _ h => h) (by kernel_rfl) (by kernel_rfl) (fun _ _ => and_congr Iff.rfl (imp_congr (getD_set_iff (by decide)) Iff.rfl)) (Or.inl ⟨by rfl, fun V hV => ?_⟩) (by assumption) ?_
        rotate_left
        · go_simp
          try with_reducible rfl
        try simp only [Act.put, List.getElem_toArray, List.getElem_cons_zero, List.setIfInBounds_toArray, List.set_cons_zero, List.set_cons_succ]
        refine anyL_take [10] (i := 1) (v := ?_) rfl (by kernel_rfl) (by kernel_rfl) (by kernel_rfl) (fun _ _ _ h => h) (by kernel_rfl) (by kernel_rfl) (fun _ _ => and_congr Iff.rfl (imp_congr (getD_set_iff (by decide)) Iff.rfl)) (Or.inl ⟨by rfl, fun V hV => ?_⟩) (by assumption) ?_
        rotate_left
        · obtain ⟨l, hn, hV⟩ := hV; have e0 := hV.2 (hn 10 (by simp)); go_simp
          try with_reducible rfl
        try simp only [Act.put, List.getElem_toArray, List.getElem_cons_zero, List.getElem_cons_succ, List.setIfInBounds_toArray, List.set_cons_zero, List.set_cons_succ]
        refine anyL_take [] (i := 2) (v := ?_) rfl (by kernel_rfl) (by kernel_rfl) (by kernel_rfl) (fun _ _ _ h => h) (by kernel_rfl) (by kernel_rfl) (fun _ _ => and_congr Iff.rfl (imp_congr (getD_set_iff (by decide)) Iff.rfl)) (Or.inl ⟨by rfl, fun V hV => ?_⟩) (by assumption) ?_
        rotate_left
        · go_simp
          try with_reducible rfl
        try simp only [Act.put, List.getElem_toArray, List.getElem_cons_zero, List.getElem_cons_succ, List.setIfInBounds_toArray, List.set_cons_zero, List.set_cons_succ]
        refine anyL_take [] (i := 3) (v := ?_) rfl (by kernel_rfl) (by kernel_rfl) (by kernel_rfl) (fun _ _ _ h => h) (by kernel_rfl) (by kernel_rfl) (fun _ _ => and_congr Iff.rfl (imp_congr (getD_set_iff (by decide)) Iff.rfl)) (Or.inl ⟨by rfl, fun V hV => ?_⟩) (by assumption) ?_
        rotate_left
        · obtain ⟨l, hn, hV⟩ := hV; have e1 := hV.1.cell 3 (v := .slice (some ⟨b1, o1, none⟩) rn rc) rfl; go_simp
          try with_reducible rfl
        try simp only [Act.put, List.getElem_toArray, List.getElem_cons_zero, List.getElem_cons_succ, List.setIfInBounds_toArray, List.set_cons_zero, List.set_cons_succ]
        refine anyL_take [] (i := 4) (v := ?_) rfl (by kernel_rfl) (by kernel_rfl) (by kernel_rfl) (fun _ _ _ h => h) (by kernel_rfl) (by kernel_rfl) (fun _ _ => and_congr Iff.rfl (imp_congr (getD_set_iff (by decide)) Iff.rfl)) (Or.inl ⟨by rfl, fun V hV => ?_⟩) (by assumption) ?_
        rotate_left
        · go_simp
          try with_reducible rfl
        try simp only [Act.put, List.getElem_toArray, List.getElem_cons_zero, List.getElem_cons_succ, List.setIfInBounds_toArray, List.set_cons_zero, List.set_cons_succ]
        refine anyL_take [] (i := 5) (v := ?_) rfl (by kernel_rfl) (by kernel_rfl) (by kernel_rfl) (fun _ _ _ h => h) (by kernel_rfl) (by kernel_rfl) (fun _ _ => and_congr Iff.rfl (imp_congr (getD_set_iff (by decide)) Iff.rfl)) (Or.inl ⟨by rfl, fun V hV => ?_⟩) (by assumption) ?_
        rotate_left
        · go_simp
          try with_reducible rfl
        try simp only [Act.put, List.getElem_toArray, List.getElem_cons_zero, List.getElem_cons_succ, List.setIfInBounds_toArray, List.set_cons_zero, List.set_cons_succ]
        refine anyL_take [] (i := 6) (v := ?_) rfl (by kernel_rfl) (by kernel_rfl) (by kernel_rfl) (fun _ _ _ h => h) (by kernel_rfl) (by kernel_rfl) (fun _ _ => and_congr Iff.rfl (imp_congr (getD_set_iff (by decide)) Iff.rfl)) (Or.inl ⟨by rfl, fun V hV => ?_⟩) (by assumption) ?_
        rotate_left
        · obtain ⟨l, hn, hV⟩ := hV; have d0 := HCV.out V hV.1 0 _ rfl; have d1 := HCV.out V hV.1 1 _ rfl; have d2 := HCV.out V hV.1 2 _ rfl; rw [Nat.add_zero] at d0; go_simp
          try with_reducible rfl
        try simp only [Act.put, List.getElem_toArray, List.getElem_cons_zero, List.getElem_cons_succ, List.setIfInBounds_toArray, List.set_cons_zero, List.set_cons_succ]
        refine anyL_one (i := 7) (o := _) (by kernel_rfl) rfl (fun K hK => ?_)
        obtain ⟨v7, hv7⟩ : ∃ V, Wd.alloc (.cells (cellsE x).toArray 104) = V := ⟨_, rfl⟩
        have hb : Below Wd.heap.size Wd v7 := by rw [← hv7]; exact (Below.refl _ _).alloc (Nat.le_refl _) _
        have HL3 : Hid (∀ j u, (cellsE x)[j]? = some u → v7.cell? ⟨Wd.heap.size, j, none⟩ = some u) := hid (fun j u hj => by rw [← hv7]; exact cell_box Wd _ 104 j u (by simpa using hj))
        have HX3 := hid (HXr.out.below hb); have HO3 := hid (HOr.out.below hb); have HV3 := hid (HVr.out.below hb); have HB3 := hid (hS.1.step hb)
        clear hS
        unfold cellsE at hv7
        go_simp
        clear hb hv7
        refine hK.out _ _ (⟨HB3.out, fun _ => (HX3.out.2 3 (.slice q9 m9 d9) rfl).1⟩) (fun hS => ?_)
        clear hK K
        try simp only [List.setIfInBounds_toArray, List.set_cons_zero, List.set_cons_succ]
        refine anyL_one (i := 8) (o := _) (by kernel_rfl) rfl (fun K hK => ?_)
        refine step_append_row cellsE_len (by decide) cellsE_one 24 104 _ 24 (by decide) Try.info104 rfl Try.und24 (by rfl) (.tmp 23) (.tmp 29) (by rfl) (w.heap.size + 3) (.slice q9 m9 d9) (someR p.reps bits k) x Wd.heap.size HV3.out rfl rfl HL3.out HLE.out (by have := HX3.out.1; omega) ?_
        intro g9 cap9 v15 h15 hb15 hg15 hk15
        rw [← HTS.out] at h15
        have HV5 := hid h15; have HX5 := hid (HX3.out.keep hb15 (by omega)); have HO5 := hid (HO3.out.keep hb15 (by omega)); have HB5 := hid (HB3.out.step' (hb15.mono (by omega)))
        clear hS h15 hb15 hk15
        refine hK.out _ _ (⟨HB5.out, fun _ => (HX5.out.2 3 (.slice q9 m9 d9) rfl).1⟩) (fun hS => ?_)
        clear hK K
        try simp only [Act.put, List.getElem_toArray, List.getElem_cons_zero, List.getElem_cons_succ, List.setIfInBounds_toArray, List.set_cons_zero, List.set_cons_succ]
        refine anyL_take [] (i := 9) (v := ?_) rfl (by kernel_rfl) (by kernel_rfl) (by kernel_rfl) (fun _ _ _ h => h) (by kernel_rfl) (by kernel_rfl) (fun _ _ => and_congr Iff.rfl (imp_congr (getD_set_iff (by decide)) Iff.rfl)) (Or.inl ⟨by rfl, fun V hV => ?_⟩) (by assumption) ?_
        rotate_left
        · go_simp
          try with_reducible rfl
        try simp only [Act.put, List.getElem_toArray, List.getElem_cons_zero, List.getElem_cons_succ, List.setIfInBounds_toArray, List.set_cons_zero, List.set_cons_succ]
        refine anyL_one (i := 10) (o := _) (by kernel_rfl) rfl (fun K hK => ?_)
        have k0 := (HX5.out.2 3 (.slice q9 m9 d9) rfl).1; have k1 := (HX5.out.2 3 (.slice q9 m9 d9) rfl).2
        have HX7 := hid (HX5.out.put (j := 3) (.slice (some ⟨g9, 0, none⟩) ((someR p.reps bits k).length + 1) cap9))
        have hn7 := (Near.refl (fun i => i = w.heap.size + 2) v15).setCell (p := ⟨w.heap.size + 2, 3, none⟩) (fun _ => rfl) (.slice (some ⟨g9, 0, none⟩) ((someR p.reps bits k).length + 1) cap9)
        have HB7 := hid (HB5.out.step' (hn7.below (B := w.heap.size + 1) HB5.out.size (fun i h1 h2 => by omega)))
        have HO7 := hid (HO5.out.far hn7 (by omega))
        have HV7 := hid (HV5.out.near hn7 (fun i h => by omega))
        clear hn7 hS
        go_simp
        clear k0 k1
        refine hK.out _ _ (⟨HB7.out, fun h => absurd h (by decide)⟩) (fun hS => ?_)
        clear hK K
        try simp only [List.setIfInBounds_toArray, List.set_cons_zero, List.set_cons_succ]
        refine anyL_done (by kernel_rfl) ?_ _
        clear hS
        go_wp2_with fail
        go_roundw
        case rel => exact ⟨k + 1, by omega, by go_num, ⟨_, _, _, HX7.out, HV7.out⟩, HB7.out, HO7.out⟩
        case measure => simp [intOf]; omega
    · have hkn : k = rn := by omega
      subst hkn
      have HV9 := hid hv
      clear hx hv hb ho
      have k0 := (HXr.out.2 0 (.slice lp ln lc) rfl).1; have k1 := (HXr.out.2 1 (.int .i64 p.reserve) rfl).1; have k2 := (HXr.out.2 2 (.slice tp tn tc) rfl).1; have k3 := (HXr.out.2 3 (.slice q9 m9 d9) rfl).1
      have z0 := (HOr.out.2 0 (.slice none 0 0) rfl).1; have y0 := (HOr.out.2 0 (.slice none 0 0) rfl).2; have z1 := (HOr.out.2 1 (.int .i64 0) rfl).1; have y1 := (HOr.out.2 1 (.int .i64 0) rfl).2; have z2 := (HOr.out.2 2 (.slice none 0 0) rfl).1; have y2 := (HOr.out.2 2 (.slice none 0 0) rfl).2; have z3 := (HOr.out.2 3 (.slice none 0 0) rfl).1; have y3 := (HOr.out.2 3 (.slice none 0 0) rfl).2
      have HR := hid ((((HOr.out.put (j := 0) (.slice lp ln lc)).put (j := 1) (.int .i64 p.reserve)).put (j := 2) (.slice tp tn tc)).put (j := 3) (.slice q9 m9 d9))
      have HB9 := hid ((((HBr.out.below.setCell (p := ⟨w.heap.size + 1, 0, none⟩) (by show w.heap.size ≤ w.heap.size + 1; omega) (.slice lp ln lc)).setCell (p := ⟨w.heap.size + 1, 1, none⟩) (by show w.heap.size ≤ w.heap.size + 1; omega) (.int .i64 p.reserve)).setCell (p := ⟨w.heap.size + 1, 2, none⟩) (by show w.heap.size ≤ w.heap.size + 1; omega) (.slice tp tn tc)).setCell (p := ⟨w.heap.size + 1, 3, none⟩) (by show w.heap.size ≤ w.heap.size + 1; omega) (.slice q9 m9 d9))
      have HN9 := hid (((((Near.refl (fun i => i = w.heap.size + 1) wr).setCell (p := ⟨w.heap.size + 1, 0, none⟩) (fun _ => rfl) (.slice lp ln lc)).setCell (p := ⟨w.heap.size + 1, 1, none⟩) (fun _ => rfl) (.int .i64 p.reserve)).setCell (p := ⟨w.heap.size + 1, 2, none⟩) (fun _ => rfl) (.slice tp tn tc)).setCell (p := ⟨w.heap.size + 1, 3, none⟩) (fun _ => rfl) (.slice q9 m9 d9))
      go_wp2_with fail
      generalize ((((wr.setCell ⟨w.heap.size + 1, 0, none⟩ (.slice lp ln lc)).setCell ⟨w.heap.size + 1, 1, none⟩ (.int .i64 p.reserve)).setCell ⟨w.heap.size + 1, 2, none⟩ (.slice tp tn tc)).setCell ⟨w.heap.size + 1, 3, none⟩ (.slice q9 m9 d9)) = W9 at HR HB9 HN9 ⊢
      clear k0 z0 y0 k1 z1 y1 k2 z2 y2 k3 z3 y3 e3
      have x0 := (HR.out.2 0 (.slice lp ln lc) rfl).1; have x1 := (HR.out.2 1 (.int .i64 p.reserve) rfl).1; have x2 := (HR.out.2 2 (.slice tp tn tc) rfl).1; have x3 := (HR.out.2 3 (.slice q9 m9 d9) rfl).1
      refine bodyPost_ret (v := .agg #[.slice lp ln lc, .int .i64 p.reserve, .slice tp tn tc, .slice q9 m9 d9]) (by simp [results, Try.f60, go_sem, x0, x1, x2, x3]) rfl ?_
      have hown := HV9.out.near HN9.out (fun k hk => by omega)
      obtain ⟨q2, d2, e2, hr2⟩ := hown.slice cellsE_len
      have hcap := hown.cap
      cases e2
      exact ⟨_, _, _, rfl, ⟨HP.out.l.below HB9.out, HP.out.t.below HB9.out, by show RowsAt cellsE 3 _ _ _ (someR p.reps bits p.reps.length); rw [← HL.out]; exact hr2⟩, hcap, HB9.out⟩
end Go.Proofs.Ytaioobhblfnlaaa
