/- Package treaty: Play. No condition but a short list. -/
import Derived.Test.YtaioobhblfnlaaaP9
namespace Go.Proofs.Ytaioobhblfnlaaa
open Go.RowKit

set_option maxRecDepth 40000 in
set_option maxHeartbeats 8000000 in
theorem clone_any (p : Option Addr) (n c : Nat) (l : List Int) (w : World) (hl : IntsAt w p n l) (hn : n ≤ 1000) :
    Calls Try.prog 67 #[.slice p n c] w (RetInts w l) := by
  have HL := hid hl
  clear hl
  cases p with
  | none =>
    have hn0 : n = 0 := by
      refine Classical.byContradiction fun h => ?_
      obtain ⟨b, off, h1, _⟩ := HL.out.2 0 (by omega)
      cases h1
    have hl0 : l = [] := List.length_eq_zero_iff.1 (by rw [← HL.out.1, hn0])
    subst hn0
    subst hl0
    have heq := fun w => eqnil27 none 0 c w
    go_enter Try.func67, Try.ntmps67
    go_wp2
    go_ret
    exact ⟨_, rfl, ownInts_nil _ _, Below.refl _ _⟩
  | some ad =>
    have heq := fun w => eqnil27 (some ad) n c w
    go_enter Try.func67, Try.ntmps67
    have HOWN : Hid (OwnInts (w.alloc (.cells #[] 3)) w.heap.size (.slice (some ⟨w.heap.size, 0, none⟩) 0 0) []) := World.ownsRow_lit w #[] 0 (Nat.le_refl _) (by decide) rfl
    have HLA := hid (HL.out.alloc (.cells #[] 3))
    go_wp2_with (at_builtin; refine append_ints (by rfl) (.tmp 5) (.tmp 6) (by rfl) w.heap.size _ [] ad n c l HOWN.out (by rfl) (by rfl) HLA.out (by simp) (by omega) (by simp) ?_; intro v' w' ho' hb')
    go_ret
    exact ⟨_, rfl, ho', ((Below.refl _ _).alloc (Nat.le_refl _) _).trans hb'⟩
noncomputable def playE (p : Prg) (l : List Int) : Int := if faultP p = 0 then (if listedB p.losses l = true then 0 else 2) else faultP p
noncomputable def playL (p : Prg) (l : List Int) : List Int := if playE p l = 0 then ofF (payA p l).1 p.ts.length else []
noncomputable def playN (p : Prg) (l : List Int) : Int := if playE p l = 0 then (payA p l).2 else 0
def PlayPost (p : Prg) (l : List Int) (w : World) : Ending → World → Prop := fun e w' => ∃ v, e = .returned (.tuple #[v, .int .i64 (playN p l), .int .i64 (playE p l)]) ∧ OwnInts w' w.heap.size v (playL p l) ∧ Below w.heap.size w w'
theorem ret_3i {v : Value} {a b x y : Int} (h : a = b) (k : x = y) : Ending.returned (.tuple #[v, .int .i64 a, .int .i64 x]) = .returned (.tuple #[v, .int .i64 b, .int .i64 y]) := by rw [h, k]
theorem play_not {p : Prg} {l : List Int} (h : playE p l ≠ 0) : playN p l = 0 ∧ playL p l = [] := ⟨by rw [playN, if_neg h], by rw [playL, if_neg h]⟩
theorem listed_at {rs : List Rng} : ∀ {l : List Int}, listedB rs l = true ↔ l.length = rs.length ∧ ∀ (i : Nat) r, rs[i]? = some r → inB (l[i]?.getD 0) r.lo r.hi = true := by
  induction rs with
  | nil => intro l; cases l <;> simp [listedB]
  | cons r rs ih =>
    intro l
    cases l with
    | nil => simp [listedB]
    | cons x l =>
      rw [listedB, Bool.and_eq_true, ih]
      constructor
      · rintro ⟨h1, h2, h3⟩
        refine ⟨by simp [h2], fun i q hi => ?_⟩
        cases i with
        | zero => simp at hi; subst hi; simpa using h1
        | succ i => simpa using h3 i q (by simpa using hi)
      · rintro ⟨h1, h2⟩
        exact ⟨by simpa using h2 0 r rfl, by simpa using h1, fun i q hi => by simpa using h2 (i + 1) q (by simpa using hi)⟩
theorem slice116 (b n : Nat) (hn : n ≤ 5) (V : World) : (Instr.sliceAt 116 (.pointer (some ⟨b, 0, none⟩)) none (some (.int .i64 (n : Int))) none).run Try.prog V = .ok (.slice (some ⟨b, 0, none⟩) n 5) V := by
  have hl : Try.prog.arrayLen 116 = 5 := by kernel_rfl
  have hu : Try.prog.underlying 116 = some (.array (Try.prog.arrayLen 116) (Try.prog.elem 116)) := by kernel_rfl
  have he : (sizeOf (Try.prog.elem 116)).run Try.prog V = .ok 1 V := by kernel_rfl
  rw [run_sliceAt_array_h (P := Try.prog) V 116 ⟨b, 0, none⟩ hu .i64 (n : Int) (by omega) (by rw [hl]; omega), he, hl]
  simp [Result.andThen, slicedAt, Addr.add]
theorem res_ints {b : Nat} {f : Nat → Int} {k : Int} {W : World} {n : Nat} (h : BoxIs b (resC f k) W) (hn : n ≤ 5) : IntsAt W (some ⟨b, 0, none⟩) n (ofF f n) := by
  refine ⟨(ofF_len f n).symm, fun i hi => ⟨b, 0, rfl, ?_⟩⟩
  rw [ofF_at f hi, Nat.zero_add]
  exact (h.2 i _ (resC_get (by omega))).1

set_option maxRecDepth 100000 in
set_option maxHeartbeats 8000000 in
theorem play_any (p : Prg) (lp : Option Addr) (ln lc : Nat) (tp : Option Addr) (tn tc : Nat) (rp : Option Addr) (rn rc : Nat) (q : Option Addr) (m c : Nat) (l : List Int) (w : World) (hp : PrgAt w p lp ln tp tn rp rn) (hl : IntsAt w q m l) (hm : m ≤ 1000000) : Calls Try.prog 20 #[.agg #[.slice lp ln lc, .int .i64 p.reserve, .slice tp tn tc, .slice rp rn rc], .slice q m c] w (PlayPost p l w) := by
  have HC := hid (fun W (hW : Below w.heap.size w W) => check_any p lp ln lc tp tn tc rp rn rc W (hp.below hW))
  have HP := hid hp
  have HTN := hid hp.t.1; have HLN := hid hp.l.1
  have HL := hid hl
  have HMN := hid hl.1
  clear hp hl
  have H0 : Hid (Boxed1 w #[.slice lp ln lc, .int .i64 p.reserve, .slice tp tn tc, .slice rp rn rc] 37 (w.alloc (.cells #[.slice lp ln lc, .int .i64 p.reserve, .slice tp tn tc, .slice rp rn rc] 37))) := hid (Boxed1.start _ _ _)
  go_enter Try.func20, Try.ntmps20
  go_wp2_with fail
  (with_reducible refine (HC.out _ H0.out.below).mono ?_)
  rintro e w1 ⟨rfl, hb⟩
  have H1 := hid (H0.out.step (hb.mono (by simp)))
  clear hb H0
  by_cases h0 : faultP p = 0
  · have HOK := hid (fault_iff.1 h0)
    have HE : Hid (playE p l = if listedB p.losses l = true then 0 else 2) := hid (by rw [playE, if_pos h0])
    rw [h0]
    clear h0
    have e0 := H1.out.cell 0 (v := .slice lp ln lc) rfl
    by_cases hmn : m = ln
    · subst hmn
      have hmb : ((m : Int) != (m : Int)) = false := by simp
      have hl4 : m ≤ 4 := by rw [HLN.out]; exact HOK.out.n4
      go_wp2_with fail
      clear e0
      go_loopw [25] (fun i wr => ∃ k : Nat, k ≤ m ∧ i = .int .i64 k ∧ (∀ (j : Nat) r, j < k → p.losses[j]? = some r → inB (l[j]?.getD 0) r.lo r.hi = true) ∧ Boxed1 w #[.slice lp m lc, .int .i64 p.reserve, .slice tp tn tc, .slice rp rn rc] 37 wr) (fun i _ => m - (intOf i).toNat)
      case atStart => exact ⟨0, by omega, rfl, (fun j r hj => by omega), H1.out⟩
      case round =>
        clear H1
        obtain ⟨k, hk, rfl, hall, h1⟩ := hrel
        have HA := hid hall; have H1 := hid h1
        clear hall h1
        by_cases hlt : k < m
        · obtain ⟨r, hr, b1, o1, rfl, hb1, d0, d1⟩ := (HP.out.l.below H1.out.below).rng hlt
          obtain ⟨b2, o2, rfl, hb2, c0⟩ := (HL.out.below H1.out.below).at (show k < m by omega)
          obtain ⟨x, hx⟩ : ∃ x, l[k]?.getD 0 = x := ⟨_, rfl⟩
          rw [hx] at c0
          have HX := hid hx; have HR := hid hr
          clear hx hr
          obtain ⟨wa, hwa⟩ : ∃ V, wr.alloc (.cells #[.int .i64 r.lo, .int .i64 r.hi] 51) = V := ⟨_, rfl⟩
          have hb : Below wr.heap.size wr wa := by rw [← hwa]; exact (Below.refl _ _).alloc (Nat.le_refl _) _
          have HB : Hid (BoxIs wr.heap.size #[.int .i64 r.lo, .int .i64 r.hi] wa) := hid (by rw [← hwa]; exact BoxIs.start _ _ _)
          have H2 := hid (H1.out.step hb)
          have c9 := (hb.cell (p := ⟨b2, o2 + k, none⟩) hb2).trans c0
          have HC9 := hid c9
          clear hb c0 c9 hb1 hb2
          go_upto_region 9 with fail
          clear hwa d0 d1
          refine wp_region_held_drew (S := fun V => BoxIs wr.heap.size #[.int .i64 r.lo, .int .i64 r.hi] V ∧ Boxed1 w #[.slice (some ⟨b1, o1, none⟩) m lc, .int .i64 p.reserve, .slice tp tn tc, .slice rp rn rc] 37 V ∧ V.cell? ⟨b2, o2 + k, none⟩ = some (.int .i64 x)) (by kernel_rfl) (⟨HB.out.below (Below.refl _ _).drew, H2.out.drew, HC9.out⟩) (fun hS => ?_)
          simp only [List.size_toArray, List.length_cons, List.length_nil, Nat.reduceAdd, Array.replicate_succ, Array.replicate_zero, List.push_toArray, List.nil_append, List.cons_append]
          refine tkH (i := 0) (v := ?_) (fun V hV => ?_) ?_
          rotate_left
          · have q0 := (hV.1.2 0 (.int .i64 r.lo) rfl).1; have q1 := (hV.1.2 1 (.int .i64 r.hi) rfl).1; go_simp
            try with_reducible rfl
          try simp only [Act.put, List.getElem_toArray, List.getElem_cons_zero, List.setIfInBounds_toArray, List.set_cons_zero, List.set_cons_succ]
          refine tkH (i := 1) (v := ?_) (fun V hV => ?_) ?_
          rotate_left
          · go_simp
            try with_reducible rfl
          try simp only [Act.put, List.getElem_toArray, List.getElem_cons_zero, List.getElem_cons_succ, List.setIfInBounds_toArray, List.set_cons_zero, List.set_cons_succ]
          refine tkH (i := 2) (v := ?_) (fun V hV => ?_) ?_
          rotate_left
          · go_simp
            try with_reducible rfl
          try simp only [Act.put, List.getElem_toArray, List.getElem_cons_zero, List.getElem_cons_succ, List.setIfInBounds_toArray, List.set_cons_zero, List.set_cons_succ]
          refine tkH (i := 3) (v := ?_) (fun V hV => ?_) ?_
          rotate_left
          · go_simp
            try with_reducible rfl
          try simp only [Act.put, List.getElem_toArray, List.getElem_cons_zero, List.getElem_cons_succ, List.setIfInBounds_toArray, List.set_cons_zero, List.set_cons_succ]
          refine tkH (i := 4) (v := ?_) (fun V hV => ?_) ?_
          rotate_left
          · have q0 := hV.2.2; go_simp
            try with_reducible rfl
          try simp only [Act.put, List.getElem_toArray, List.getElem_cons_zero, List.getElem_cons_succ, List.setIfInBounds_toArray, List.set_cons_zero, List.set_cons_succ]
          refine wpAnyH_ready (rs := [5]) (by kernel_rfl) (by simp) ?_
          refine AllReadyH.cons (o := _) rfl (fun K hK => ?_) AllReadyH.nil
          go_simp
          (with_reducible refine (has_any r x _).mono ?_)
          rintro e v5 ⟨rfl, hb⟩
          refine hK.out _ _ (⟨hS.1.below hb, hS.2.1.step hb, (hb.cell (p := ⟨b2, o2 + k, none⟩) (World.block_lt_of_cell? _ _ hS.2.2)).trans hS.2.2⟩) (fun hS => ?_)
          clear hK K
          try simp only [List.setIfInBounds_toArray, List.set_cons_zero, List.set_cons_succ]
          refine tkH (i := 6) (v := ?_) (fun V hV => ?_) ?_
          rotate_left
          · go_simp
            try with_reducible rfl
          try simp only [Act.put, List.getElem_toArray, List.getElem_cons_zero, List.getElem_cons_succ, List.setIfInBounds_toArray, List.set_cons_zero, List.set_cons_succ]
          refine wpAnyH_done (by kernel_rfl) ?_ _
          obtain ⟨_, hB9, _⟩ := hS
          have H9 := hid hB9
          clear hB9
          cases hi : inB x r.lo r.hi
          · have HNL : Hid (listedB p.losses l = false) := hid (Bool.eq_false_iff.2 fun h9 => by have h8 := (listed_at.1 h9).2 k r HR.out; rw [HX.out, hi] at h8; cases h8)
            have HER : Hid (playE p l = 2) := hid (by rw [HE.out, HNL.out]; rfl)
            have HNN := hid (play_not (by rw [HER.out]; decide : playE p l ≠ 0))
            clear hi
            go_wp2_with fail
            go_ret3
            exact ⟨_, ret_3i HNN.out.1.symm HER.out.symm, by rw [HNN.out.2]; exact ownInts_nil _ _, H9.out.below⟩
          · have HA2 : Hid (∀ (j : Nat) q, j < k + 1 → p.losses[j]? = some q → inB (l[j]?.getD 0) q.lo q.hi = true) := hid (fun j q hj hq => by
              by_cases ejk : j = k
              · subst ejk; rw [HR.out] at hq; cases hq; rw [HX.out]; exact hi
              · exact HA.out j q (by omega) hq)
            clear hi
            go_wp2_with fail
            go_roundw
            case rel => exact ⟨k + 1, by omega, by go_num, HA2.out, H9.out⟩
            case measure => simp [intOf]; omega
        · have hkn : k = m := by omega
          subst hkn
          have HLS : Hid (listedB p.losses l = true) := hid (listed_at.2 ⟨by have := HLN.out; have := HMN.out; omega, fun i r hi => HA.out i r (by have := (List.getElem?_eq_some_iff.1 hi).1; have := HLN.out; omega) hi⟩)
          have HER : Hid (playE p l = 0) := hid (by rw [HE.out, HLS.out]; rfl)
          have HPL : Hid (playL p l = ofF (payA p l).1 tn ∧ playN p l = (payA p l).2) := hid ⟨by rw [playL, if_pos HER.out, HTN.out], by rw [playN, if_pos HER.out]⟩
          have ht5 : tn ≤ 5 := by rw [HTN.out]; exact HOK.out.m5
          have e0 := H1.out.cell 0 (v := .slice lp k lc) rfl; have e1 := H1.out.cell 1 (v := .int .i64 p.reserve) rfl; have e2 := H1.out.cell 2 (v := .slice tp tn tc) rfl; have e3 := H1.out.cell 3 (v := .slice rp rn rc) rfl
          go_wp2_with fail
          (with_reducible refine (work_any p lp k lc tp tn tc rp rn rc _).mono ?_)
          rintro e w2 ⟨rfl, hbx, hmv, hb⟩
          have HPW := hid (HP.out.below H1.out.below)
          have HM := hid (notM_of HPW.out (Nat.le_succ wr.heap.size))
          have HBX := hid hbx; have HMV := hid hmv
          have H2 := hid (H1.out.step hb)
          have HLW := hid ((HL.out.below H1.out.below).below hb)
          have HQM : Hid (∀ a, q = some a → 0 < k → a.block ≠ wr.heap.size + 1) := hid (fun a ha h0 e => by have h9 := ints_lt (HL.out.below H1.out.below) ⟨a, ha, h0, rfl⟩; omega)
          have HTM : Hid (∀ a, tp = some a → 0 < tn → a.block ≠ wr.heap.size + 1) := hid (fun a ha h0 e => HM.out.t ⟨a, ha, h0, e.symm⟩)
          have HTW := hid (HPW.out.t.below hb)
          have HS1 := hid H1.out.size
          have HBD := hid (listed_bd HOK.out.loss HLS.out)
          have HLEN := hid HOK.out.m5
          clear hbx hmv hb e0 e1 e2 e3
          go_wp2_with fail
          (with_reducible refine (total_any p lp k lc tp tn tc rp rn rc allT q k c l (wr.heap.size + 2) (wr.heap.size + 1) 0 (fun _ => none) w2 HTW.out HBX.out HMV.out (knows_none _ _) (by unfold maxLen; omega) HOK.out.ots HLEN.out HLW.out HBD.out (by omega) HQM.out HTM.out).mono ?_)
          rintro e w3 ⟨rfl, M', _, _, hn⟩
          have H3 : Hid (Boxed1 w #[.slice lp k lc, .int .i64 p.reserve, .slice tp tn tc, .slice rp rn rc] 37 w3) := hid (H2.out.step' (hn.below (by have h8 := H2.out.size; omega) (fun i h1 h2 => by have := HS1.out; omega)))
          clear hn
          obtain ⟨r, hr⟩ : ∃ r, paysS p.ts allT l = r := ⟨_, rfl⟩
          have HRR : Hid (payA p l = r) := hid hr
          rw [hr]
          clear hr
          obtain ⟨f, kp⟩ := r
          unfold resC
          obtain ⟨wa, hwa⟩ : ∃ V, w3.alloc (.cells #[.int .i64 (f 0), .int .i64 (f 1), .int .i64 (f 2), .int .i64 (f 3), .int .i64 (f 4), .int .i64 kp] 118) = V := ⟨_, rfl⟩
          have hb : Below w3.heap.size w3 wa := by rw [← hwa]; exact (Below.refl _ _).alloc (Nat.le_refl _) _
          have HB : Hid (BoxIs w3.heap.size (resC f kp) wa) := hid (by rw [← hwa]; exact BoxIs.start _ _ _)
          have H4 := hid (H3.out.step hb)
          clear hb
          go_upto_region 13 with fail
          clear hwa
          refine wp_region_held_drew (S := fun V => BoxIs w3.heap.size (resC f kp) V ∧ Boxed1 w #[.slice lp k lc, .int .i64 p.reserve, .slice tp tn tc, .slice rp rn rc] 37 V ∧ Below w.heap.size w V) (by kernel_rfl) (⟨HB.out.below (Below.refl _ _).drew, H4.out.drew, H4.out.below.drew⟩) (fun hS => ?_)
          simp only [List.size_toArray, List.length_cons, List.length_nil, Nat.reduceAdd, Array.replicate_succ, Array.replicate_zero, List.push_toArray, List.nil_append, List.cons_append]
          refine tkH (i := 0) (v := ?_) (fun V hV => ?_) ?_
          rotate_left
          · go_simp
            try with_reducible rfl
          try simp only [Act.put, List.getElem_toArray, List.getElem_cons_zero, List.setIfInBounds_toArray, List.set_cons_zero, List.set_cons_succ]
          refine tkH (i := 1) (v := ?_) (fun V hV => ?_) ?_
          rotate_left
          · go_simp
            try with_reducible rfl
          try simp only [Act.put, List.getElem_toArray, List.getElem_cons_zero, List.getElem_cons_succ, List.setIfInBounds_toArray, List.set_cons_zero, List.set_cons_succ]
          refine tkH (i := 2) (v := ?_) (fun V hV => ?_) ?_
          rotate_left
          · have q0 := hV.2.1.cell 2 (v := .slice tp tn tc) rfl; go_simp
            try with_reducible rfl
          try simp only [Act.put, List.getElem_toArray, List.getElem_cons_zero, List.getElem_cons_succ, List.setIfInBounds_toArray, List.set_cons_zero, List.set_cons_succ]
          refine tkH (i := 3) (v := ?_) (fun V hV => ?_) ?_
          rotate_left
          · go_simp
            try with_reducible rfl
          try simp only [Act.put, List.getElem_toArray, List.getElem_cons_zero, List.getElem_cons_succ, List.setIfInBounds_toArray, List.set_cons_zero, List.set_cons_succ]
          refine tkH (i := 4) (v := ?_) (fun V hV => ?_) ?_
          rotate_left
          · have q0 := slice116 w3.heap.size tn ht5 V; go_simp
            try with_reducible rfl
          try simp only [Act.put, List.getElem_toArray, List.getElem_cons_zero, List.getElem_cons_succ, List.setIfInBounds_toArray, List.set_cons_zero, List.set_cons_succ]
          refine tkH (i := 6) (v := ?_) (fun V hV => ?_) ?_
          rotate_left
          · go_simp
            try with_reducible rfl
          try simp only [Act.put, List.getElem_toArray, List.getElem_cons_zero, List.getElem_cons_succ, List.setIfInBounds_toArray, List.set_cons_zero, List.set_cons_succ]
          refine tkH (i := 7) (v := ?_) (fun V hV => ?_) ?_
          rotate_left
          · have q0 := (hV.1.2 5 (.int .i64 kp) rfl).1; go_simp
            try with_reducible rfl
          try simp only [Act.put, List.getElem_toArray, List.getElem_cons_zero, List.getElem_cons_succ, List.setIfInBounds_toArray, List.set_cons_zero, List.set_cons_succ]
          refine wpAnyH_ready (rs := [5]) (by kernel_rfl) (by simp) ?_
          refine AllReadyH.cons (o := _) rfl (fun K hK => ?_) AllReadyH.nil
          go_simp
          (with_reducible refine (clone_any (some ⟨w3.heap.size, 0, none⟩) tn 5 (ofF f tn) _ (res_ints hS.1 ht5) (by omega)).mono ?_)
          rintro e v5 ⟨v9, rfl, hown, hb⟩
          have HOWN := hid (hown.mono (base' := w.heap.size) hS.2.2.size)
          refine hK.out _ _ (⟨hS.1.below hb, hS.2.1.step hb, hS.2.2.trans (hb.mono hS.2.2.size)⟩) (fun hS => ?_)
          clear hK K
          try simp only [List.setIfInBounds_toArray, List.set_cons_zero, List.set_cons_succ]
          refine tkH (i := 8) (v := ?_) (fun V hV => ?_) ?_
          rotate_left
          · go_simp
            try with_reducible rfl
          try simp only [Act.put, List.getElem_toArray, List.getElem_cons_zero, List.getElem_cons_succ, List.setIfInBounds_toArray, List.set_cons_zero, List.set_cons_succ]
          refine tkH (i := 9) (v := ?_) (fun V hV => ?_) ?_
          rotate_left
          · go_simp
            try with_reducible rfl
          try simp only [Act.put, List.getElem_toArray, List.getElem_cons_zero, List.getElem_cons_succ, List.setIfInBounds_toArray, List.set_cons_zero, List.set_cons_succ]
          refine tkH (i := 10) (v := ?_) (fun V hV => ?_) ?_
          rotate_left
          · go_simp
            try with_reducible rfl
          try simp only [Act.put, List.getElem_toArray, List.getElem_cons_zero, List.getElem_cons_succ, List.setIfInBounds_toArray, List.set_cons_zero, List.set_cons_succ]
          refine wpAnyH_done (by kernel_rfl) ?_ _
          have HB9 := hid hS.2.2
          clear hS
          go_wp2_with fail
          go_ret3
          exact ⟨_, ret_3i (by rw [HPL.out.2, HRR.out]) HER.out.symm, by rw [HPL.out.1, HRR.out]; exact HOWN.out, HB9.out⟩
    · have hmb : ((m : Int) != (ln : Int)) = true := by simp; omega
      have HNL : Hid (listedB p.losses l = false) := hid (Bool.eq_false_iff.2 fun h9 => hmn (by have h8 := listed_len h9; have := HLN.out; have := HMN.out; omega))
      have HER : Hid (playE p l = 2) := hid (by rw [HE.out, HNL.out]; rfl)
      have HNN := hid (play_not (by rw [HER.out]; decide : playE p l ≠ 0))
      clear hmn
      go_wp2_with fail
      go_ret3
      exact ⟨_, ret_3i HNN.out.1.symm HER.out.symm, by rw [HNN.out.2]; exact ownInts_nil _ _, H1.out.below⟩
  · have hE : (faultP p != 0) = true := by simpa using h0
    have HER : Hid (playE p l = faultP p) := hid (by rw [playE, if_neg h0])
    have HNN := hid (play_not (by rw [HER.out]; exact h0 : playE p l ≠ 0))
    clear h0
    go_wp2_with fail
    go_ret3
    exact ⟨_, ret_3i HNN.out.1.symm HER.out.symm, by rw [HNN.out.2]; exact ownInts_nil _ _, H1.out.below⟩
end Go.Proofs.Ytaioobhblfnlaaa
