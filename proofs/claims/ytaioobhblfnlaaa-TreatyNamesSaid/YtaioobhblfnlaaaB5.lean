/- Whether a programme is valid: Fault of the reference, CheckProgramme of the program; the statements' helpers fault, Thin and ready. No condition. -/
import Derived.Test.YtaioobhblfnlaaaB4
namespace Go.Proofs.Ytaioobhblfnlaaa
open Go.RowKit


set_option maxRecDepth 40000 in
set_option maxHeartbeats 16000000 in
theorem fault_any (p : Prg) (lp : Option Addr) (ln lc : Nat) (tp : Option Addr) (tn tc : Nat) (rp : Option Addr) (rn rc : Nat) (w : World) (hp : PrgAt w p lp ln tp tn rp rn) :
    Calls Try.prog 63 #[.agg #[.slice lp ln lc, .int .i64 p.reserve, .slice tp tn tc, .slice rp rn rc]] w fun e w' => e = .returned (.int .i64 (faultP p)) ∧ Below w.heap.size w w' := by
  have HLN := hid hp.l.1; have HTN := hid hp.t.1; have HRN := hid hp.r.1
  have HP := hid hp
  clear hp
  have H0 : Hid (Boxed1 w #[.slice lp ln lc, .int .i64 p.reserve, .slice tp tn tc, .slice rp rn rc] 26 (w.alloc (.cells #[.slice lp ln lc, .int .i64 p.reserve, .slice tp tn tc, .slice rp rn rc] 26))) := hid (Boxed1.start _ _ _)
  by_cases h1 : 4 < ln
  · have HF : Hid (faultP p = 3) := hid (fault_big (by unfold bigP; have := HLN.out; have := HTN.out; have := HRN.out; omega))
    go_enter Try.func63, Try.ntmps63
    go_wp2_with fail
    go_ret
    exact ⟨ret_int HF.out.symm, H0.out.below⟩
  by_cases h2 : 5 < tn
  · have HF : Hid (faultP p = 3) := hid (fault_big (by unfold bigP; have := HLN.out; have := HTN.out; have := HRN.out; omega))
    go_enter Try.func63, Try.ntmps63
    go_wp2_with fail
    go_ret
    exact ⟨ret_int HF.out.symm, H0.out.below⟩
  by_cases h3 : 5 < rn
  · have HF : Hid (faultP p = 3) := hid (fault_big (by unfold bigP; have := HLN.out; have := HTN.out; have := HRN.out; omega))
    go_enter Try.func63, Try.ntmps63
    go_wp2_with fail
    go_ret
    exact ⟨ret_int HF.out.symm, H0.out.below⟩
  have HNB : Hid (¬ bigP p) := hid (by unfold bigP; have := HLN.out; have := HTN.out; have := HRN.out; omega)
  cases h4 : inB p.reserve 0 10000
  · have HF : Hid (faultP p = 1) := hid (fault_arg HNB.out (by simp [argsB, h4]))
    go_enter Try.func63, Try.ntmps63
    go_wp2_with (go_at_call 59; refine (in_any _ _ _ _).mono ?_; rintro e w' ⟨rfl, rfl⟩)
    go_ret
    exact ⟨ret_int HF.out.symm, H0.out.below⟩
  · skip
    have HA := hid h4
    go_enter Try.func63, Try.ntmps63
    go_wp2_with (go_at_call 59; refine (in_any _ _ _ _).mono ?_; rintro e w' ⟨rfl, rfl⟩)
    clear h4
    go_loopw [3] (fun i wr => ∃ k : Nat, k ≤ ln ∧ i = .int .i64 k ∧ (p.losses.drop k).all lossB = p.losses.all lossB ∧ Boxed1 w #[.slice lp ln lc, .int .i64 p.reserve, .slice tp tn tc, .slice rp rn rc] 26 wr) (fun i _ => ln - (intOf i).toNat)
    case atStart => exact ⟨0, by omega, rfl, rfl, H0.out⟩
    case round =>
      obtain ⟨k, hk, rfl, hr, hb⟩ := hrel
      have HR := hid hr; have HB := hid hb
      clear hr H0
      have e0 := hb.cell 0 (v := .slice lp ln lc) rfl; have e1 := hb.cell 1 (v := .int .i64 p.reserve) rfl; have e2 := hb.cell 2 (v := .slice tp tn tc) rfl; have e3 := hb.cell 3 (v := .slice rp rn rc) rfl
      by_cases hlt : k < ln
      · obtain ⟨r, ht, b1, o1, rfl, hb1, hc0, hc1⟩ := (HP.out.l.below hb.below).rng hlt
        have HD := hid (drop_at' ht)
        clear ht hb
        cases hl : r.of 0 1000
        · have HF : Hid (faultP p = 1) := hid (fault_arg HNB.out (by have h : p.losses.all lossB = false := (by rw [← HR.out, HD.out, List.all_cons, lossB, hl]; rfl); simp [argsB, h]))
          go_wp2_with fail
          refine (withinR_any r 0 1000 _).mono ?_
          rintro e w1 ⟨rfl, hb2⟩
          have HB2 := hid (HB.out.step hb2)
          clear hb2
          rw [hl]
          go_wp2_with fail
          go_ret
          exact ⟨ret_int HF.out.symm, HB2.out.below⟩
        · have HF : Hid ((p.losses.drop (k + 1)).all lossB = p.losses.all lossB) := by show _ = _; rw [← HR.out, HD.out, List.all_cons, lossB, hl]; rfl
          go_wp2_with fail
          refine (withinR_any r 0 1000 _).mono ?_
          rintro e w1 ⟨rfl, hb2⟩
          have HB2 := hid (HB.out.step hb2)
          clear hb2
          rw [hl]
          go_wp2_with fail
          go_roundw
          case rel => exact ⟨k + 1, by omega, by go_num, HF.out, HB2.out⟩
          case measure => simp [intOf]; omega
      · have HL1 : Hid (p.losses.all lossB = true) := by show _ = _; rw [← HR.out, List.drop_of_length_le (by have := HLN.out; omega)]; rfl
        clear HR hb
        go_wp2_with fail
        clear e0 e1 e2 e3 hlt hk
        have H1 := HB
        clear HB
        go_loopw [4] (fun i wr => ∃ k : Nat, k ≤ tn ∧ i = .int .i64 k ∧ allI treI k (p.ts.drop k) = allI treI 0 p.ts ∧ Boxed1 w #[.slice lp ln lc, .int .i64 p.reserve, .slice tp tn tc, .slice rp rn rc] 26 wr) (fun i _ => tn - (intOf i).toNat)
        case atStart => exact ⟨0, by omega, rfl, rfl, H1.out⟩
        case round =>
          obtain ⟨k, hk, rfl, hr, hb⟩ := hrel
          have HR := hid hr; have HB := hid hb
          clear hr H1
          have e0 := hb.cell 0 (v := .slice lp ln lc) rfl; have e1 := hb.cell 1 (v := .int .i64 p.reserve) rfl; have e2 := hb.cell 2 (v := .slice tp tn tc) rfl; have e3 := hb.cell 3 (v := .slice rp rn rc) rfl
          by_cases hlt : k < tn
          · obtain ⟨t, ht, b1, o1, rfl, hb1, hc0, hc1, hc2, hc3, hc4, hc5, hc6⟩ := (HP.out.t.below hb.below).tre hlt
            have HD := hid (drop_at' ht)
            clear ht hb
            cases hl : treI k t
            · have HF : Hid (faultP p = 1) := hid (fault_arg HNB.out (by have h : allI treI 0 p.ts = false := (by rw [← HR.out, HD.out, allI, hl]; rfl); simp [argsB, h]))
              go_wp2_with fail
              refine (isTreaty_any t k _ (by omega)).mono ?_
              rintro e w1 ⟨rfl, hb2⟩
              have HB2 := hid (HB.out.step hb2)
              clear hb2
              rw [hl]
              go_wp2_with fail
              go_ret
              exact ⟨ret_int HF.out.symm, HB2.out.below⟩
            · have HF : Hid (allI treI (k + 1) (p.ts.drop (k + 1)) = allI treI 0 p.ts) := by show _ = _; rw [← HR.out, HD.out, allI, hl]; rfl
              go_wp2_with fail
              refine (isTreaty_any t k _ (by omega)).mono ?_
              rintro e w1 ⟨rfl, hb2⟩
              have HB2 := hid (HB.out.step hb2)
              clear hb2
              rw [hl]
              go_wp2_with fail
              go_roundw
              case rel => exact ⟨k + 1, by omega, by go_num, HF.out, HB2.out⟩
              case measure => simp [intOf]; omega
          · have HL2 : Hid (allI treI 0 p.ts = true) := by show _ = _; rw [← HR.out, List.drop_of_length_le (by have := HTN.out; omega)]; rfl
            clear HR hb
            go_wp2_with fail
            clear e0 e1 e2 e3 hlt hk
            have H2 := HB
            clear HB
            go_loopw [5] (fun i wr => ∃ k : Nat, k ≤ rn ∧ i = .int .i64 k ∧ (p.reps.drop k).all (repB tn) = p.reps.all (repB tn) ∧ Boxed1 w #[.slice lp ln lc, .int .i64 p.reserve, .slice tp tn tc, .slice rp rn rc] 26 wr) (fun i _ => rn - (intOf i).toNat)
            case atStart => exact ⟨0, by omega, rfl, rfl, H2.out⟩
            case round =>
              obtain ⟨k, hk, rfl, hr, hb⟩ := hrel
              have HR := hid hr; have HB := hid hb
              clear hr H2
              have e0 := hb.cell 0 (v := .slice lp ln lc) rfl; have e1 := hb.cell 1 (v := .int .i64 p.reserve) rfl; have e2 := hb.cell 2 (v := .slice tp tn tc) rfl; have e3 := hb.cell 3 (v := .slice rp rn rc) rfl
              by_cases hlt : k < rn
              · obtain ⟨x, ht, b1, o1, rfl, hb1, _⟩ := (HP.out.r.below hb.below).rep hlt
                have HD := hid (drop_at' ht)
                have HX := hid ht
                clear ht hb
                cases h5 : inB x.tr 0 ((tn : Int) - 1)
                · have HF : Hid (faultP p = 1) := hid (fault_arg HNB.out (by have h : p.reps.all (repB p.ts.length) = false := (by rw [← HTN.out, ← HR.out, HD.out, List.all_cons, repB, h5]; rfl); simp [argsB, h]))
                  have hw1 : IntKind.i64.wrap ((tn : Int) - 1) = (tn : Int) - 1 := IntWalk.i64_in _ (by omega)
                  go_wp2_with fail
                  clear e0 e1 e2 e3
                  refine wp_region_held_drew (S := fun V => Boxed1 w #[.slice lp ln lc, .int .i64 p.reserve, .slice tp tn tc, .slice (some ⟨b1, o1, none⟩) rn rc] 26 V) (by kernel_rfl) (HB.out.drew) (fun hS => ?_)
                  simp only [List.size_toArray, List.length_cons, List.length_nil, Nat.reduceAdd, Array.replicate_succ, Array.replicate_zero, List.push_toArray, List.nil_append, List.cons_append]
                  refine tkH (i := 0) (v := ?_) (fun V hV => ?_) ?_
                  rotate_left
                  · go_simp
                    try with_reducible rfl
                  try simp only [Act.put, List.getElem_toArray, List.getElem_cons_zero, List.setIfInBounds_toArray, List.set_cons_zero, List.set_cons_succ]
                  refine tkH (i := 1) (v := ?_) (fun V hV => ?_) ?_
                  rotate_left
                  · have e0 := hV.cell 0 (v := .slice lp ln lc) rfl; have e1 := hV.cell 1 (v := .int .i64 p.reserve) rfl; have e2 := hV.cell 2 (v := .slice tp tn tc) rfl; have e3 := hV.cell 3 (v := .slice (some ⟨b1, o1, none⟩) rn rc) rfl; go_simp
                    try with_reducible rfl
                  try simp only [Act.put, List.getElem_toArray, List.getElem_cons_zero, List.getElem_cons_succ, List.setIfInBounds_toArray, List.set_cons_zero, List.set_cons_succ]
                  refine tkH (i := 2) (v := ?_) (fun V hV => ?_) ?_
                  rotate_left
                  · go_simp
                    try with_reducible rfl
                  try simp only [Act.put, List.getElem_toArray, List.getElem_cons_zero, List.getElem_cons_succ, List.setIfInBounds_toArray, List.set_cons_zero, List.set_cons_succ]
                  refine tkH (i := 3) (v := ?_) (fun V hV => ?_) ?_
                  rotate_left
                  · go_simp
                    try with_reducible rfl
                  try simp only [Act.put, List.getElem_toArray, List.getElem_cons_zero, List.getElem_cons_succ, List.setIfInBounds_toArray, List.set_cons_zero, List.set_cons_succ]
                  refine tkH (i := 4) (v := ?_) (fun V hV => ?_) ?_
                  rotate_left
                  · go_simp
                    try with_reducible rfl
                  try simp only [Act.put, List.getElem_toArray, List.getElem_cons_zero, List.getElem_cons_succ, List.setIfInBounds_toArray, List.set_cons_zero, List.set_cons_succ]
                  refine tkH (i := 5) (v := ?_) (fun V hV => ?_) ?_
                  rotate_left
                  · have ⟨c0, c1, c2⟩ := rep_again (HP.out.r.below hV.below) HX.out; go_simp
                    try with_reducible rfl
                  try simp only [Act.put, List.getElem_toArray, List.getElem_cons_zero, List.getElem_cons_succ, List.setIfInBounds_toArray, List.set_cons_zero, List.set_cons_succ]
                  refine tkH (i := 6) (v := ?_) (fun V hV => ?_) ?_
                  rotate_left
                  · go_simp
                    try with_reducible rfl
                  try simp only [Act.put, List.getElem_toArray, List.getElem_cons_zero, List.getElem_cons_succ, List.setIfInBounds_toArray, List.set_cons_zero, List.set_cons_succ]
                  refine tkH (i := 7) (v := ?_) (fun V hV => ?_) ?_
                  rotate_left
                  · have e0 := hV.cell 0 (v := .slice lp ln lc) rfl; have e1 := hV.cell 1 (v := .int .i64 p.reserve) rfl; have e2 := hV.cell 2 (v := .slice tp tn tc) rfl; have e3 := hV.cell 3 (v := .slice (some ⟨b1, o1, none⟩) rn rc) rfl; go_simp
                    try with_reducible rfl
                  try simp only [Act.put, List.getElem_toArray, List.getElem_cons_zero, List.getElem_cons_succ, List.setIfInBounds_toArray, List.set_cons_zero, List.set_cons_succ]
                  refine tkH (i := 8) (v := ?_) (fun V hV => ?_) ?_
                  rotate_left
                  · go_simp
                    try with_reducible rfl
                  try simp only [Act.put, List.getElem_toArray, List.getElem_cons_zero, List.getElem_cons_succ, List.setIfInBounds_toArray, List.set_cons_zero, List.set_cons_succ]
                  refine tkH (i := 9) (v := ?_) (fun V hV => ?_) ?_
                  rotate_left
                  · go_simp
                    try with_reducible rfl
                  try simp only [Act.put, List.getElem_toArray, List.getElem_cons_zero, List.getElem_cons_succ, List.setIfInBounds_toArray, List.set_cons_zero, List.set_cons_succ]
                  refine wpAnyH_ready (rs := [10]) (by kernel_rfl) (by simp) ?_
                  refine AllReadyH.cons (o := _) rfl (fun K hK => ?_) AllReadyH.nil
                  go_simp
                  (with_reducible refine (in_any x.tr 0 ((tn : Int) - 1) _).mono ?_)
                  rintro e v10 ⟨rfl, rfl⟩
                  rw [h5]
                  refine hK.out _ _ (hS) (fun hS => ?_)
                  clear hK K
                  try simp only [List.setIfInBounds_toArray, List.set_cons_zero, List.set_cons_succ]
                  refine tkH (i := 11) (v := ?_) (fun V hV => ?_) ?_
                  rotate_left
                  · go_simp
                    try with_reducible rfl
                  try simp only [Act.put, List.getElem_toArray, List.getElem_cons_zero, List.getElem_cons_succ, List.setIfInBounds_toArray, List.set_cons_zero, List.set_cons_succ]
                  refine tkH (i := 12) (v := ?_) (fun V hV => ?_) ?_
                  rotate_left
                  · go_simp
                    try with_reducible rfl
                  try simp only [Act.put, List.getElem_toArray, List.getElem_cons_zero, List.getElem_cons_succ, List.setIfInBounds_toArray, List.set_cons_zero, List.set_cons_succ]
                  refine tkU (i := 13) ?_
                  try simp only [Act.put, List.getElem_toArray, List.getElem_cons_zero, List.getElem_cons_succ, List.setIfInBounds_toArray, List.set_cons_zero, List.set_cons_succ]
                  refine tkU (i := 14) ?_
                  try simp only [Act.put, List.getElem_toArray, List.getElem_cons_zero, List.getElem_cons_succ, List.setIfInBounds_toArray, List.set_cons_zero, List.set_cons_succ]
                  refine tkU (i := 15) ?_
                  try simp only [Act.put, List.getElem_toArray, List.getElem_cons_zero, List.getElem_cons_succ, List.setIfInBounds_toArray, List.set_cons_zero, List.set_cons_succ]
                  refine tkU (i := 16) ?_
                  try simp only [Act.put, List.getElem_toArray, List.getElem_cons_zero, List.getElem_cons_succ, List.setIfInBounds_toArray, List.set_cons_zero, List.set_cons_succ]
                  refine tkU (i := 17) ?_
                  try simp only [Act.put, List.getElem_toArray, List.getElem_cons_zero, List.getElem_cons_succ, List.setIfInBounds_toArray, List.set_cons_zero, List.set_cons_succ]
                  refine tkU (i := 18) ?_
                  try simp only [Act.put, List.getElem_toArray, List.getElem_cons_zero, List.getElem_cons_succ, List.setIfInBounds_toArray, List.set_cons_zero, List.set_cons_succ]
                  refine tkU (i := 19) ?_
                  try simp only [Act.put, List.getElem_toArray, List.getElem_cons_zero, List.getElem_cons_succ, List.setIfInBounds_toArray, List.set_cons_zero, List.set_cons_succ]
                  refine tkU (i := 20) ?_
                  try simp only [Act.put, List.getElem_toArray, List.getElem_cons_zero, List.getElem_cons_succ, List.setIfInBounds_toArray, List.set_cons_zero, List.set_cons_succ]
                  refine tkH (i := 21) (v := ?_) (fun V hV => ?_) ?_
                  rotate_left
                  · go_simp
                    try with_reducible rfl
                  try simp only [Act.put, List.getElem_toArray, List.getElem_cons_zero, List.getElem_cons_succ, List.setIfInBounds_toArray, List.set_cons_zero, List.set_cons_succ]
                  refine wpAnyH_done (by kernel_rfl) ?_ _
                  have HB2 := hid hS
                  clear hS
                  go_wp2_with fail
                  go_ret
                  exact ⟨ret_int HF.out.symm, HB2.out.below⟩
                · cases h6 : x.paid.of 0 10000
                  · have HF : Hid (faultP p = 1) := hid (fault_arg HNB.out (by have h : p.reps.all (repB p.ts.length) = false := (by rw [← HTN.out, ← HR.out, HD.out, List.all_cons, repB, h5, h6]; rfl); simp [argsB, h]))
                    have hw1 : IntKind.i64.wrap ((tn : Int) - 1) = (tn : Int) - 1 := IntWalk.i64_in _ (by omega)
                    go_wp2_with fail
                    clear e0 e1 e2 e3
                    refine wp_region_held_drew (S := fun V => Boxed1 w #[.slice lp ln lc, .int .i64 p.reserve, .slice tp tn tc, .slice (some ⟨b1, o1, none⟩) rn rc] 26 V) (by kernel_rfl) (HB.out.drew) (fun hS => ?_)
                    simp only [List.size_toArray, List.length_cons, List.length_nil, Nat.reduceAdd, Array.replicate_succ, Array.replicate_zero, List.push_toArray, List.nil_append, List.cons_append]
                    refine tkH (i := 0) (v := ?_) (fun V hV => ?_) ?_
                    rotate_left
                    · go_simp
                      try with_reducible rfl
                    try simp only [Act.put, List.getElem_toArray, List.getElem_cons_zero, List.setIfInBounds_toArray, List.set_cons_zero, List.set_cons_succ]
                    refine tkH (i := 1) (v := ?_) (fun V hV => ?_) ?_
                    rotate_left
                    · have e0 := hV.cell 0 (v := .slice lp ln lc) rfl; have e1 := hV.cell 1 (v := .int .i64 p.reserve) rfl; have e2 := hV.cell 2 (v := .slice tp tn tc) rfl; have e3 := hV.cell 3 (v := .slice (some ⟨b1, o1, none⟩) rn rc) rfl; go_simp
                      try with_reducible rfl
                    try simp only [Act.put, List.getElem_toArray, List.getElem_cons_zero, List.getElem_cons_succ, List.setIfInBounds_toArray, List.set_cons_zero, List.set_cons_succ]
                    refine tkH (i := 2) (v := ?_) (fun V hV => ?_) ?_
                    rotate_left
                    · go_simp
                      try with_reducible rfl
                    try simp only [Act.put, List.getElem_toArray, List.getElem_cons_zero, List.getElem_cons_succ, List.setIfInBounds_toArray, List.set_cons_zero, List.set_cons_succ]
                    refine tkH (i := 3) (v := ?_) (fun V hV => ?_) ?_
                    rotate_left
                    · go_simp
                      try with_reducible rfl
                    try simp only [Act.put, List.getElem_toArray, List.getElem_cons_zero, List.getElem_cons_succ, List.setIfInBounds_toArray, List.set_cons_zero, List.set_cons_succ]
                    refine tkH (i := 4) (v := ?_) (fun V hV => ?_) ?_
                    rotate_left
                    · go_simp
                      try with_reducible rfl
                    try simp only [Act.put, List.getElem_toArray, List.getElem_cons_zero, List.getElem_cons_succ, List.setIfInBounds_toArray, List.set_cons_zero, List.set_cons_succ]
                    refine tkH (i := 5) (v := ?_) (fun V hV => ?_) ?_
                    rotate_left
                    · have ⟨c0, c1, c2⟩ := rep_again (HP.out.r.below hV.below) HX.out; go_simp
                      try with_reducible rfl
                    try simp only [Act.put, List.getElem_toArray, List.getElem_cons_zero, List.getElem_cons_succ, List.setIfInBounds_toArray, List.set_cons_zero, List.set_cons_succ]
                    refine tkH (i := 6) (v := ?_) (fun V hV => ?_) ?_
                    rotate_left
                    · go_simp
                      try with_reducible rfl
                    try simp only [Act.put, List.getElem_toArray, List.getElem_cons_zero, List.getElem_cons_succ, List.setIfInBounds_toArray, List.set_cons_zero, List.set_cons_succ]
                    refine tkH (i := 7) (v := ?_) (fun V hV => ?_) ?_
                    rotate_left
                    · have e0 := hV.cell 0 (v := .slice lp ln lc) rfl; have e1 := hV.cell 1 (v := .int .i64 p.reserve) rfl; have e2 := hV.cell 2 (v := .slice tp tn tc) rfl; have e3 := hV.cell 3 (v := .slice (some ⟨b1, o1, none⟩) rn rc) rfl; go_simp
                      try with_reducible rfl
                    try simp only [Act.put, List.getElem_toArray, List.getElem_cons_zero, List.getElem_cons_succ, List.setIfInBounds_toArray, List.set_cons_zero, List.set_cons_succ]
                    refine tkH (i := 8) (v := ?_) (fun V hV => ?_) ?_
                    rotate_left
                    · go_simp
                      try with_reducible rfl
                    try simp only [Act.put, List.getElem_toArray, List.getElem_cons_zero, List.getElem_cons_succ, List.setIfInBounds_toArray, List.set_cons_zero, List.set_cons_succ]
                    refine tkH (i := 9) (v := ?_) (fun V hV => ?_) ?_
                    rotate_left
                    · go_simp
                      try with_reducible rfl
                    try simp only [Act.put, List.getElem_toArray, List.getElem_cons_zero, List.getElem_cons_succ, List.setIfInBounds_toArray, List.set_cons_zero, List.set_cons_succ]
                    refine wpAnyH_ready (rs := [10]) (by kernel_rfl) (by simp) ?_
                    refine AllReadyH.cons (o := _) rfl (fun K hK => ?_) AllReadyH.nil
                    go_simp
                    (with_reducible refine (in_any x.tr 0 ((tn : Int) - 1) _).mono ?_)
                    rintro e v10 ⟨rfl, rfl⟩
                    rw [h5]
                    refine hK.out _ _ (hS) (fun hS => ?_)
                    clear hK K
                    try simp only [List.setIfInBounds_toArray, List.set_cons_zero, List.set_cons_succ]
                    refine tkH (i := 11) (v := ?_) (fun V hV => ?_) ?_
                    rotate_left
                    · go_simp
                      try with_reducible rfl
                    try simp only [Act.put, List.getElem_toArray, List.getElem_cons_zero, List.getElem_cons_succ, List.setIfInBounds_toArray, List.set_cons_zero, List.set_cons_succ]
                    refine tkH (i := 12) (v := ?_) (fun V hV => ?_) ?_
                    rotate_left
                    · go_simp
                      try with_reducible rfl
                    try simp only [Act.put, List.getElem_toArray, List.getElem_cons_zero, List.getElem_cons_succ, List.setIfInBounds_toArray, List.set_cons_zero, List.set_cons_succ]
                    refine tkH (i := 13) (v := ?_) (fun V hV => ?_) ?_
                    rotate_left
                    · go_simp
                      try with_reducible rfl
                    try simp only [Act.put, List.getElem_toArray, List.getElem_cons_zero, List.getElem_cons_succ, List.setIfInBounds_toArray, List.set_cons_zero, List.set_cons_succ]
                    refine tkH (i := 14) (v := ?_) (fun V hV => ?_) ?_
                    rotate_left
                    · have e0 := hV.cell 0 (v := .slice lp ln lc) rfl; have e1 := hV.cell 1 (v := .int .i64 p.reserve) rfl; have e2 := hV.cell 2 (v := .slice tp tn tc) rfl; have e3 := hV.cell 3 (v := .slice (some ⟨b1, o1, none⟩) rn rc) rfl; go_simp
                      try with_reducible rfl
                    try simp only [Act.put, List.getElem_toArray, List.getElem_cons_zero, List.getElem_cons_succ, List.setIfInBounds_toArray, List.set_cons_zero, List.set_cons_succ]
                    refine tkH (i := 15) (v := ?_) (fun V hV => ?_) ?_
                    rotate_left
                    · go_simp
                      try with_reducible rfl
                    try simp only [Act.put, List.getElem_toArray, List.getElem_cons_zero, List.getElem_cons_succ, List.setIfInBounds_toArray, List.set_cons_zero, List.set_cons_succ]
                    refine tkH (i := 16) (v := ?_) (fun V hV => ?_) ?_
                    rotate_left
                    · go_simp
                      try with_reducible rfl
                    try simp only [Act.put, List.getElem_toArray, List.getElem_cons_zero, List.getElem_cons_succ, List.setIfInBounds_toArray, List.set_cons_zero, List.set_cons_succ]
                    refine tkH (i := 17) (v := ?_) (fun V hV => ?_) ?_
                    rotate_left
                    · go_simp
                      try with_reducible rfl
                    try simp only [Act.put, List.getElem_toArray, List.getElem_cons_zero, List.getElem_cons_succ, List.setIfInBounds_toArray, List.set_cons_zero, List.set_cons_succ]
                    refine tkH (i := 18) (v := ?_) (fun V hV => ?_) ?_
                    rotate_left
                    · have ⟨c0, c1, c2⟩ := rep_again (HP.out.r.below hV.below) HX.out; go_simp
                      try with_reducible rfl
                    try simp only [Act.put, List.getElem_toArray, List.getElem_cons_zero, List.getElem_cons_succ, List.setIfInBounds_toArray, List.set_cons_zero, List.set_cons_succ]
                    refine wpAnyH_ready (rs := [19]) (by kernel_rfl) (by simp) ?_
                    refine AllReadyH.cons (o := _) rfl (fun K hK => ?_) AllReadyH.nil
                    go_simp
                    (with_reducible refine (withinR_any x.paid 0 10000 _).mono ?_)
                    rintro e v19 ⟨rfl, hb9⟩
                    rw [h6]
                    refine hK.out _ _ (hS.step hb9) (fun hS => ?_)
                    clear hK K
                    try simp only [List.setIfInBounds_toArray, List.set_cons_zero, List.set_cons_succ]
                    refine tkH (i := 20) (v := ?_) (fun V hV => ?_) ?_
                    rotate_left
                    · go_simp
                      try with_reducible rfl
                    try simp only [Act.put, List.getElem_toArray, List.getElem_cons_zero, List.getElem_cons_succ, List.setIfInBounds_toArray, List.set_cons_zero, List.set_cons_succ]
                    refine tkH (i := 21) (v := ?_) (fun V hV => ?_) ?_
                    rotate_left
                    · go_simp
                      try with_reducible rfl
                    try simp only [Act.put, List.getElem_toArray, List.getElem_cons_zero, List.getElem_cons_succ, List.setIfInBounds_toArray, List.set_cons_zero, List.set_cons_succ]
                    refine wpAnyH_done (by kernel_rfl) ?_ _
                    have HB2 := hid hS
                    clear hS
                    go_wp2_with fail
                    go_ret
                    exact ⟨ret_int HF.out.symm, HB2.out.below⟩
                  · have HF : Hid ((p.reps.drop (k + 1)).all (repB tn) = p.reps.all (repB tn)) := by show _ = _; rw [← HR.out, HD.out, List.all_cons, repB, h5, h6]; rfl
                    have hw1 : IntKind.i64.wrap ((tn : Int) - 1) = (tn : Int) - 1 := IntWalk.i64_in _ (by omega)
                    go_wp2_with fail
                    clear e0 e1 e2 e3
                    refine wp_region_held_drew (S := fun V => Boxed1 w #[.slice lp ln lc, .int .i64 p.reserve, .slice tp tn tc, .slice (some ⟨b1, o1, none⟩) rn rc] 26 V) (by kernel_rfl) (HB.out.drew) (fun hS => ?_)
                    simp only [List.size_toArray, List.length_cons, List.length_nil, Nat.reduceAdd, Array.replicate_succ, Array.replicate_zero, List.push_toArray, List.nil_append, List.cons_append]
                    refine tkH (i := 0) (v := ?_) (fun V hV => ?_) ?_
                    rotate_left
                    · go_simp
                      try with_reducible rfl
                    try simp only [Act.put, List.getElem_toArray, List.getElem_cons_zero, List.setIfInBounds_toArray, List.set_cons_zero, List.set_cons_succ]
                    refine tkH (i := 1) (v := ?_) (fun V hV => ?_) ?_
                    rotate_left
                    · have e0 := hV.cell 0 (v := .slice lp ln lc) rfl; have e1 := hV.cell 1 (v := .int .i64 p.reserve) rfl; have e2 := hV.cell 2 (v := .slice tp tn tc) rfl; have e3 := hV.cell 3 (v := .slice (some ⟨b1, o1, none⟩) rn rc) rfl; go_simp
                      try with_reducible rfl
                    try simp only [Act.put, List.getElem_toArray, List.getElem_cons_zero, List.getElem_cons_succ, List.setIfInBounds_toArray, List.set_cons_zero, List.set_cons_succ]
                    refine tkH (i := 2) (v := ?_) (fun V hV => ?_) ?_
                    rotate_left
                    · go_simp
                      try with_reducible rfl
                    try simp only [Act.put, List.getElem_toArray, List.getElem_cons_zero, List.getElem_cons_succ, List.setIfInBounds_toArray, List.set_cons_zero, List.set_cons_succ]
                    refine tkH (i := 3) (v := ?_) (fun V hV => ?_) ?_
                    rotate_left
                    · go_simp
                      try with_reducible rfl
                    try simp only [Act.put, List.getElem_toArray, List.getElem_cons_zero, List.getElem_cons_succ, List.setIfInBounds_toArray, List.set_cons_zero, List.set_cons_succ]
                    refine tkH (i := 4) (v := ?_) (fun V hV => ?_) ?_
                    rotate_left
                    · go_simp
                      try with_reducible rfl
                    try simp only [Act.put, List.getElem_toArray, List.getElem_cons_zero, List.getElem_cons_succ, List.setIfInBounds_toArray, List.set_cons_zero, List.set_cons_succ]
                    refine tkH (i := 5) (v := ?_) (fun V hV => ?_) ?_
                    rotate_left
                    · have ⟨c0, c1, c2⟩ := rep_again (HP.out.r.below hV.below) HX.out; go_simp
                      try with_reducible rfl
                    try simp only [Act.put, List.getElem_toArray, List.getElem_cons_zero, List.getElem_cons_succ, List.setIfInBounds_toArray, List.set_cons_zero, List.set_cons_succ]
                    refine tkH (i := 6) (v := ?_) (fun V hV => ?_) ?_
                    rotate_left
                    · go_simp
                      try with_reducible rfl
                    try simp only [Act.put, List.getElem_toArray, List.getElem_cons_zero, List.getElem_cons_succ, List.setIfInBounds_toArray, List.set_cons_zero, List.set_cons_succ]
                    refine tkH (i := 7) (v := ?_) (fun V hV => ?_) ?_
                    rotate_left
                    · have e0 := hV.cell 0 (v := .slice lp ln lc) rfl; have e1 := hV.cell 1 (v := .int .i64 p.reserve) rfl; have e2 := hV.cell 2 (v := .slice tp tn tc) rfl; have e3 := hV.cell 3 (v := .slice (some ⟨b1, o1, none⟩) rn rc) rfl; go_simp
                      try with_reducible rfl
                    try simp only [Act.put, List.getElem_toArray, List.getElem_cons_zero, List.getElem_cons_succ, List.setIfInBounds_toArray, List.set_cons_zero, List.set_cons_succ]
                    refine tkH (i := 8) (v := ?_) (fun V hV => ?_) ?_
                    rotate_left
                    · go_simp
                      try with_reducible rfl
                    try simp only [Act.put, List.getElem_toArray, List.getElem_cons_zero, List.getElem_cons_succ, List.setIfInBounds_toArray, List.set_cons_zero, List.set_cons_succ]
                    refine tkH (i := 9) (v := ?_) (fun V hV => ?_) ?_
                    rotate_left
                    · go_simp
                      try with_reducible rfl
                    try simp only [Act.put, List.getElem_toArray, List.getElem_cons_zero, List.getElem_cons_succ, List.setIfInBounds_toArray, List.set_cons_zero, List.set_cons_succ]
                    refine wpAnyH_ready (rs := [10]) (by kernel_rfl) (by simp) ?_
                    refine AllReadyH.cons (o := _) rfl (fun K hK => ?_) AllReadyH.nil
                    go_simp
                    (with_reducible refine (in_any x.tr 0 ((tn : Int) - 1) _).mono ?_)
                    rintro e v10 ⟨rfl, rfl⟩
                    rw [h5]
                    refine hK.out _ _ (hS) (fun hS => ?_)
                    clear hK K
                    try simp only [List.setIfInBounds_toArray, List.set_cons_zero, List.set_cons_succ]
                    refine tkH (i := 11) (v := ?_) (fun V hV => ?_) ?_
                    rotate_left
                    · go_simp
                      try with_reducible rfl
                    try simp only [Act.put, List.getElem_toArray, List.getElem_cons_zero, List.getElem_cons_succ, List.setIfInBounds_toArray, List.set_cons_zero, List.set_cons_succ]
                    refine tkH (i := 12) (v := ?_) (fun V hV => ?_) ?_
                    rotate_left
                    · go_simp
                      try with_reducible rfl
                    try simp only [Act.put, List.getElem_toArray, List.getElem_cons_zero, List.getElem_cons_succ, List.setIfInBounds_toArray, List.set_cons_zero, List.set_cons_succ]
                    refine tkH (i := 13) (v := ?_) (fun V hV => ?_) ?_
                    rotate_left
                    · go_simp
                      try with_reducible rfl
                    try simp only [Act.put, List.getElem_toArray, List.getElem_cons_zero, List.getElem_cons_succ, List.setIfInBounds_toArray, List.set_cons_zero, List.set_cons_succ]
                    refine tkH (i := 14) (v := ?_) (fun V hV => ?_) ?_
                    rotate_left
                    · have e0 := hV.cell 0 (v := .slice lp ln lc) rfl; have e1 := hV.cell 1 (v := .int .i64 p.reserve) rfl; have e2 := hV.cell 2 (v := .slice tp tn tc) rfl; have e3 := hV.cell 3 (v := .slice (some ⟨b1, o1, none⟩) rn rc) rfl; go_simp
                      try with_reducible rfl
                    try simp only [Act.put, List.getElem_toArray, List.getElem_cons_zero, List.getElem_cons_succ, List.setIfInBounds_toArray, List.set_cons_zero, List.set_cons_succ]
                    refine tkH (i := 15) (v := ?_) (fun V hV => ?_) ?_
                    rotate_left
                    · go_simp
                      try with_reducible rfl
                    try simp only [Act.put, List.getElem_toArray, List.getElem_cons_zero, List.getElem_cons_succ, List.setIfInBounds_toArray, List.set_cons_zero, List.set_cons_succ]
                    refine tkH (i := 16) (v := ?_) (fun V hV => ?_) ?_
                    rotate_left
                    · go_simp
                      try with_reducible rfl
                    try simp only [Act.put, List.getElem_toArray, List.getElem_cons_zero, List.getElem_cons_succ, List.setIfInBounds_toArray, List.set_cons_zero, List.set_cons_succ]
                    refine tkH (i := 17) (v := ?_) (fun V hV => ?_) ?_
                    rotate_left
                    · go_simp
                      try with_reducible rfl
                    try simp only [Act.put, List.getElem_toArray, List.getElem_cons_zero, List.getElem_cons_succ, List.setIfInBounds_toArray, List.set_cons_zero, List.set_cons_succ]
                    refine tkH (i := 18) (v := ?_) (fun V hV => ?_) ?_
                    rotate_left
                    · have ⟨c0, c1, c2⟩ := rep_again (HP.out.r.below hV.below) HX.out; go_simp
                      try with_reducible rfl
                    try simp only [Act.put, List.getElem_toArray, List.getElem_cons_zero, List.getElem_cons_succ, List.setIfInBounds_toArray, List.set_cons_zero, List.set_cons_succ]
                    refine wpAnyH_ready (rs := [19]) (by kernel_rfl) (by simp) ?_
                    refine AllReadyH.cons (o := _) rfl (fun K hK => ?_) AllReadyH.nil
                    go_simp
                    (with_reducible refine (withinR_any x.paid 0 10000 _).mono ?_)
                    rintro e v19 ⟨rfl, hb9⟩
                    rw [h6]
                    refine hK.out _ _ (hS.step hb9) (fun hS => ?_)
                    clear hK K
                    try simp only [List.setIfInBounds_toArray, List.set_cons_zero, List.set_cons_succ]
                    refine tkH (i := 20) (v := ?_) (fun V hV => ?_) ?_
                    rotate_left
                    · go_simp
                      try with_reducible rfl
                    try simp only [Act.put, List.getElem_toArray, List.getElem_cons_zero, List.getElem_cons_succ, List.setIfInBounds_toArray, List.set_cons_zero, List.set_cons_succ]
                    refine tkH (i := 21) (v := ?_) (fun V hV => ?_) ?_
                    rotate_left
                    · go_simp
                      try with_reducible rfl
                    try simp only [Act.put, List.getElem_toArray, List.getElem_cons_zero, List.getElem_cons_succ, List.setIfInBounds_toArray, List.set_cons_zero, List.set_cons_succ]
                    refine wpAnyH_done (by kernel_rfl) ?_ _
                    have HB2 := hid hS
                    clear hS
                    go_wp2_with fail
                    go_roundw
                    case rel => exact ⟨k + 1, by omega, by go_num, HF.out, HB2.out⟩
                    case measure => simp [intOf]; omega
              · have HL3 : Hid (p.reps.all (repB tn) = true) := by show _ = _; rw [← HR.out, List.drop_of_length_le (by have := HRN.out; omega)]; rfl
                clear HR hb
                go_wp2_with fail
                clear e0 e1 e2 e3 hlt hk
                have H3 := HB
                clear HB
                have HAR : Hid (argsB p = true) := hid (by have h3 := HL3.out; rw [HTN.out] at h3; simp [argsB, HA.out, HL1.out, HL2.out, h3])
                have HLO := hid (LossOk.of HL1.out)
                have hln : ln ≤ 1000000 := by omega
                refine (many_any p lp ln lc tp tn tc rp rn rc _ (HP.out.below H3.out.below) hln HLO.out).mono ?_
                rintro e w1 ⟨rfl, hb⟩
                have HE := hid (H3.out.step hb)
                clear hb
                by_cases hm : 1500 < prodL p.losses
                · have HF : Hid (faultP p = 3) := hid (by rw [fault_many HNB.out HAR.out, if_pos hm])
                  have hmm : 1500 < minI 2000 (prodL p.losses) := by unfold minI; split <;> omega
                  go_wp2_with fail
                  go_ret
                  exact ⟨ret_int HF.out.symm, HE.out.below⟩
                · have HF : Hid (faultP p = 0) := hid (by rw [fault_many HNB.out HAR.out, if_neg hm])
                  have hmm : ¬ 1500 < minI 2000 (prodL p.losses) := by unfold minI; split <;> omega
                  go_wp2_with fail
                  go_ret
                  exact ⟨ret_int HF.out.symm, HE.out.below⟩
end Go.Proofs.Ytaioobhblfnlaaa
