/- FrameBounds returns true, whatever its arguments are. No condition. -/
import Derived.Test.YtlicijnaacdceaaPlnF
import Derived.Test.YtlicijnaacdceaaLawAwake
import Derived.Test.YtlicijnaacdceaaRefI
namespace Go.Proofs.Ytlicijnaacdceaa
open Go.RowKit

set_option maxRecDepth 40000 in
set_option maxHeartbeats 16000000 in
theorem frameBounds_any (r cc : Int) (p : Option Addr) (n c : Nat) (l : List Int) (sm : Int) (q : Option Addr) (m d : Nat) (cs : List Cnt) (place : Int) (w : World) (hl : IntsAt w p n l) (hcs : CntsAt w q m cs) :
    Calls Try.prog 10 #[.agg #[.int .i64 r, .int .i64 cc, .slice p n c, .int .i64 sm, .slice q m d], .int .i64 place] w fun e w' => e = .returned (.bool true) ∧ Below w.heap.size w w' := by
  have HS1 := hid (SAt.start (r := r) (cc := cc) (c := c) (sm := sm) (d := d) hl hcs)
  clear hl hcs
  have g0 := HS1.out.c0; have g1 := HS1.out.c1; have g2 := HS1.out.c2; have g3 := HS1.out.c3; have g4 := HS1.out.c4
  by_cases ht : thinB n m = true
  · have hnm : n ≤ 12 ∧ m ≤ 9 := by simpa [thinB] using ht
    have HN := hid hnm
    clear hnm
    go_enter Try.func10, Try.ntmps10
    go_wp2_with fail
    refine (thin_any _ _ _ _ _ _ _ _ _ _).mono ?_
    rintro e w2 ⟨rfl, hb⟩
    have HS2 := hid (HS1.out.step hb)
    clear hb g0 g1 g2 g3 g4
    have g0 := HS2.out.c0; have g1 := HS2.out.c1; have g2 := HS2.out.c2; have g3 := HS2.out.c3; have g4 := HS2.out.c4
    rw [show (decide (n ≤ 12) && decide (m ≤ 9)) = true from ht]
    clear ht
    go_wp2_with fail
    refine (surveyX_any r cc p n c l sm q m d cs _ HS2.out.ints HS2.out.cnts (by have := HN.out; omega) (by have := HN.out; omega)).mono ?_
    rintro e w3 ⟨p1, n1, c1, q1, m1, d1, rfl, hi3, hc3, hb⟩
    have HS3 := hid (HS2.out.step hb)
    have HI3 := hid hi3; have HC3 := hid hc3; clear hi3 hc3
    have HL3 : Hid (n1 ≤ 12 ∧ m1 ≤ 9) := ⟨by have := HI3.out.1; have := HS3.out.ints.1; have := HN.out; omega, by have := HC3.out.1; have := HS3.out.cnts.1; have := HN.out; omega⟩
    clear hb g0 g1 g2 g3 g4
    have g0 := HS3.out.c0; have g1 := HS3.out.c1; have g2 := HS3.out.c2; have g3 := HS3.out.c3; have g4 := HS3.out.c4
    go_wp2_with fail
    refine (Bounds_any r cc p1 n1 c1 l sm q1 m1 d1 cs _ HI3.out HC3.out (by have := HL3.out; omega) (by have := HL3.out; omega)).mono ?_
    rintro e w4 ⟨rfl, hb⟩
    have HS4 := hid (HS3.out.step hb)
    obtain ⟨b1, hb1⟩ : ∃ a, (bndR (shareL l) r cc l sm cs).1 = a := ⟨_, rfl⟩
    obtain ⟨b2, hb2⟩ : ∃ a, (bndR (shareL l) r cc l sm cs).2.1 = a := ⟨_, rfl⟩
    obtain ⟨b3, hb3⟩ : ∃ a, (bndR (shareL l) r cc l sm cs).2.2 = a := ⟨_, rfl⟩
    rw [hb1, hb2, hb3]
    have HB1 := hid hb1; have HB2 := hid hb2; have HB3 := hid hb3
    clear hb1 hb2 hb3
    clear hb g0 g1 g2 g3 g4
    have g0 := HS4.out.c0; have g1 := HS4.out.c1; have g2 := HS4.out.c2; have g3 := HS4.out.c3; have g4 := HS4.out.c4
    obtain ⟨w5, hw⟩ : ∃ w5, w4.alloc (.cells #[.int .i64 b1, .int .i64 b2] 62) = w5 := ⟨_, rfl⟩
    have hb : Below w4.heap.size w4 w5 := by rw [← hw]; exact (Below.refl _ _).alloc (Nat.le_refl _) _
    have HS5 := hid (HS4.out.step hb)
    have HTB5 : Hid (TwoAt w5 w4.heap.size b1 b2) := by rw [← hw]; exact ⟨cell_box w4 _ 62 0 _ rfl, cell_box w4 _ 62 1 _ rfl⟩
    clear hb g0 g1 g2 g3 g4
    have g0 := HS5.out.c0; have g1 := HS5.out.c1; have g2 := HS5.out.c2; have g3 := HS5.out.c3; have g4 := HS5.out.c4
    go_wp2_with fail
    refine (surveyX_any r cc p n c l sm q m d cs _ HS5.out.ints HS5.out.cnts (by have := HN.out; omega) (by have := HN.out; omega)).mono ?_
    rintro e w6 ⟨p2, n2, c2, q2, m2, d2, rfl, hi3, hc3, hb⟩
    have HS6 := hid (HS5.out.step hb)
    have HTB6 := hid (HTB5.out.below hb)
    have HI6 := hid hi3; have HC6 := hid hc3; clear hi3 hc3
    have HL6 : Hid (n2 ≤ 12 ∧ m2 ≤ 9) := ⟨by have := HI6.out.1; have := HS6.out.ints.1; have := HN.out; omega, by have := HC6.out.1; have := HS6.out.cnts.1; have := HN.out; omega⟩
    clear hb g0 g1 g2 g3 g4
    have g0 := HS6.out.c0; have g1 := HS6.out.c1; have g2 := HS6.out.c2; have g3 := HS6.out.c3; have g4 := HS6.out.c4
    go_wp2_with fail
    refine (Hits_any r cc p2 n2 c2 l sm q2 m2 d2 cs place _ HI6.out HC6.out (by have := HL6.out; omega) (by have := HL6.out; omega)).mono ?_
    rintro e w7 ⟨rfl, hb⟩
    have HS7 := hid (HS6.out.step hb)
    have HTB7 := hid (HTB6.out.below hb)
    obtain ⟨h1, hb1⟩ : ∃ a, (hitsR place r cc l sm cs).1 = a := ⟨_, rfl⟩
    obtain ⟨h2, hb2⟩ : ∃ a, (hitsR place r cc l sm cs).2.1 = a := ⟨_, rfl⟩
    obtain ⟨h3, hb3⟩ : ∃ a, (hitsR place r cc l sm cs).2.2 = a := ⟨_, rfl⟩
    rw [hb1, hb2, hb3]
    have HH1 := hid hb1; have HH2 := hid hb2; have HH3 := hid hb3
    clear hb1 hb2 hb3
    clear hb g0 g1 g2 g3 g4
    have g0 := HS7.out.c0; have g1 := HS7.out.c1; have g2 := HS7.out.c2; have g3 := HS7.out.c3; have g4 := HS7.out.c4
    obtain ⟨w8, hw⟩ : ∃ w8, w7.alloc (.cells #[.int .i64 h1, .int .i64 h2] 62) = w8 := ⟨_, rfl⟩
    have hb : Below w7.heap.size w7 w8 := by rw [← hw]; exact (Below.refl _ _).alloc (Nat.le_refl _) _
    have HS8 := hid (HS7.out.step hb)
    have HTB8 := hid (HTB7.out.below hb)
    have HTH8 : Hid (TwoAt w8 w7.heap.size h1 h2) := by rw [← hw]; exact ⟨cell_box w7 _ 62 0 _ rfl, cell_box w7 _ 62 1 _ rfl⟩
    clear hb g0 g1 g2 g3 g4
    have g0 := HS8.out.c0; have g1 := HS8.out.c1; have g2 := HS8.out.c2; have g3 := HS8.out.c3; have g4 := HS8.out.c4
    go_wp2_with fail
    refine (sure_any r cc p n c l sm q m d cs _ HS8.out.ints HS8.out.cnts (by have := HN.out; omega) (by have := HN.out; omega)).mono ?_
    rintro e w9 ⟨pt, nt, ct, T, rfl, hx, hX, hb⟩
    have HS9 := hid (HS8.out.step hb)
    have HTB9 := hid (HTB8.out.below hb)
    have HTH9 := hid (HTH8.out.below hb)
    have HT9 := hid hx
    have HTT := hid hX
    clear hx hX
    obtain ⟨se, hse⟩ : ∃ a, sureE r cc l sm cs = a := ⟨_, rfl⟩
    rw [hse]
    have HSE := hid hse
    clear hse
    clear hb g0 g1 g2 g3 g4
    have g0 := HS9.out.c0; have g1 := HS9.out.c1; have g2 := HS9.out.c2; have g3 := HS9.out.c3; have g4 := HS9.out.c4
    go_wp2_with fail
    refine (faultX_any r cc p n c l sm q m d cs _ HS9.out.ints HS9.out.cnts (by have := HN.out; omega) (by have := HN.out; omega)).mono ?_
    rintro e w10 ⟨rfl, hb⟩
    have HS10 := hid (HS9.out.step hb)
    have HTB10 := hid (HTB9.out.below hb)
    have HTH10 := hid (HTH9.out.below hb)
    have HT10 := hid (HT9.out.below hb)
    clear hb g0 g1 g2 g3 g4
    have g0 := HS10.out.c0; have g1 := HS10.out.c1; have g2 := HS10.out.c2; have g3 := HS10.out.c3; have g4 := HS10.out.c4
    have HBS := hid (bnd_sure (r := r) (cc := cc) (l := l) (sm := sm) (cs := cs) share_bnd)
    have HHD := hid (hits_due (r := r) (cc := cc) (l := l) (sm := sm) (cs := cs) place)
    rw [HB1.out, HB2.out, HB3.out, HSE.out] at HBS
    rw [HH1.out, HH2.out, HH3.out] at HHD
    by_cases hf : faultL r cc l sm cs = 0
    · have HF0 := hid hf
      rw [hf]
      clear hf
      have hwr : IntKind.i64.wrap ((n : Int) - 1) = (n : Int) - 1 := IntWalk.i64_in _ (by have := HN.out; omega)
      go_wp2_with fail
      refine (in_any _ _ _ _).mono ?_
      rintro e w90 ⟨rfl, rfl⟩
      clear hwr
      have hnl : ((n : Nat) : Int) = (l.length : Int) := by have := HS10.out.ints.1; omega
      rw [hnl]
      clear hnl
      by_cases hi : inB place 0 ((l.length : Int) - 1) = true
      · have HDU : Hid (dueH r cc l sm cs place = se) := by show dueH _ _ _ _ _ _ = _; unfold dueH; rw [if_neg (by rw [hi]; simp)]; exact HSE.out
        rw [hi]
        clear hi
        by_cases hse : se = 0
        · subst hse
          rw [HDU.out] at HHD
          have eb3 : b3 = 0 := HBS.out.1
          have eh3 : h3 = 0 := HHD.out.1
          subst eb3 eh3
          have hT : T = truthsL cc l sm cs 0 := by have h9 : T = sureV r cc l sm cs := HTT.out; rw [h9, sureV, if_pos (HBS.out.2.2 rfl).1]
          have HF := hid (HBS.out.2.2 rfl).1
          have hok := truths_ok HF.out
          have hBS := (HBS.out.2.2 rfl).2.2
          rw [← hT] at hok hBS
          have HOK := hid hok
          have HBV := hid hBS
          have HZ : Hid (nt ≤ 4000) := by have h1 := HT10.out.1; have h2 := hok.few; show nt ≤ 4000; omega
          have hHD := HHD.out.2.2 rfl
          rw [← hT] at hHD
          obtain ⟨_, ⟨pl, hpl, hpl2⟩, hv1, hv2⟩ := hHD
          subst hpl
          rw [Int.toNat_natCast] at hv1 hv2
          have HHV := hid (And.intro hv1 hv2)
          have HPL : Hid (pl < n) := by have h1 := HS10.out.ints.1; show pl < n; omega
          clear hv1 hv2 hpl2
          clear hT hok hBS
          clear HBS HHD HTT
          have ⟨t0, t1⟩ := HTB10.out
          have ⟨u0, u1⟩ := HTH10.out
          go_wp2_with fail
          refine wp_region_held_drew (S := fun V => SAt w r cc p n c l sm q m d cs V ∧ TwoAt V _ b1 b2 ∧ TwoAt V _ h1 h2 ∧ IntsAt V pt nt T) (by kernel_rfl) (⟨HS10.out.drewN 1, HTB10.out, HTH10.out, HT10.out⟩) (fun hS => ?_)
          simp only [List.size_toArray, List.length_cons, List.length_nil, Nat.reduceAdd, Array.replicate_succ, Array.replicate_zero, List.push_toArray, List.nil_append, List.cons_append]
          refine wpAnyH_take (i := 0) (v := ?_) rfl (by kernel_rfl) (by kernel_rfl) (by kernel_rfl) (fun _ _ _ h => h) (Or.inl ⟨by rfl, fun V hV => ?_⟩) (by assumption) ?_
          rotate_left
          · go_simp
            try with_reducible rfl
          try simp only [Act.put, List.getElem_toArray, List.getElem_cons_zero, List.setIfInBounds_toArray, List.set_cons_zero, List.set_cons_succ]
          refine wpAnyH_take (i := 1) (v := ?_) rfl (by kernel_rfl) (by kernel_rfl) (by kernel_rfl) (fun _ _ _ h => h) (Or.inl ⟨by rfl, fun V hV => ?_⟩) (by assumption) ?_
          rotate_left
          · go_simp
            try with_reducible rfl
          try simp only [Act.put, List.getElem_toArray, List.getElem_cons_zero, List.getElem_cons_succ, List.setIfInBounds_toArray, List.set_cons_zero, List.set_cons_succ]
          refine wpAnyH_take (i := 2) (v := ?_) rfl (by kernel_rfl) (by kernel_rfl) (by kernel_rfl) (fun _ _ _ h => h) (Or.inl ⟨by rfl, fun V hV => ?_⟩) (by assumption) ?_
          rotate_left
          · go_simp
            try with_reducible rfl
          try simp only [Act.put, List.getElem_toArray, List.getElem_cons_zero, List.getElem_cons_succ, List.setIfInBounds_toArray, List.set_cons_zero, List.set_cons_succ]
          refine wpAnyH_take (i := 3) (v := ?_) rfl (by kernel_rfl) (by kernel_rfl) (by kernel_rfl) (fun _ _ _ h => h) (Or.inl ⟨by rfl, fun V hV => ?_⟩) (by assumption) ?_
          rotate_left
          · have ⟨t0, t1⟩ := hV.2.1; go_simp
            try with_reducible rfl
          try simp only [Act.put, List.getElem_toArray, List.getElem_cons_zero, List.getElem_cons_succ, List.setIfInBounds_toArray, List.set_cons_zero, List.set_cons_succ]
          refine wpAnyH_take (i := 4) (v := ?_) rfl (by kernel_rfl) (by kernel_rfl) (by kernel_rfl) (fun _ _ _ h => h) (Or.inl ⟨by rfl, fun V hV => ?_⟩) (by assumption) ?_
          rotate_left
          · have g0 := hV.1.c0; have g1 := hV.1.c1; have g2 := hV.1.c2; have g3 := hV.1.c3; have g4 := hV.1.c4; go_simp
            try with_reducible rfl
          try simp only [Act.put, List.getElem_toArray, List.getElem_cons_zero, List.getElem_cons_succ, List.setIfInBounds_toArray, List.set_cons_zero, List.set_cons_succ]
          refine wpAnyH_take (i := 5) (v := ?_) rfl (by kernel_rfl) (by kernel_rfl) (by kernel_rfl) (fun _ _ _ h => h) (Or.inl ⟨by rfl, fun V hV => ?_⟩) (by assumption) ?_
          rotate_left
          · go_simp
            try with_reducible rfl
          try simp only [Act.put, List.getElem_toArray, List.getElem_cons_zero, List.getElem_cons_succ, List.setIfInBounds_toArray, List.set_cons_zero, List.set_cons_succ]
          refine wpAnyH_ready (rs := [6]) (by kernel_rfl) (by simp) ?_
          refine AllReadyH.cons (o := _) rfl (fun K hK => ?_) AllReadyH.nil
          go_simp
          refine (bounds_any r cc p n c l sm q m d cs pt nt ct T _ hS.1.ints hS.2.2.2 HZ.out (oks_of HF.out) (fun x hx => by have := HOK.out.num x hx; omega)).mono ?_
          rintro e w81 ⟨rfl, hb⟩
          rw [← HBV.out.1, ← HBV.out.2]
          refine hK.out _ _ (⟨hS.1.step hb, hS.2.1.below hb, hS.2.2.1.below hb, hS.2.2.2.below hb⟩) (fun hS => ?_)
          clear hK K
          try simp only [List.setIfInBounds_toArray, List.set_cons_zero, List.set_cons_succ]
          refine wpAnyH_ready (rs := [7]) (by kernel_rfl) (by simp) ?_
          refine AllReadyH.cons (o := _) rfl (fun K hK => ?_) AllReadyH.nil
          go_simp
          refine (to_any _ _ _).mono ?_
          rintro e w82 ⟨rfl, hb⟩
          refine hK.out _ _ (⟨hS.1.step hb, hS.2.1.below hb, hS.2.2.1.below hb, hS.2.2.2.below hb⟩) (fun hS => ?_)
          clear hK K
          try simp only [List.setIfInBounds_toArray, List.set_cons_zero, List.set_cons_succ]
          refine wpAnyH_take (i := 8) (v := ?_) rfl (by kernel_rfl) (by kernel_rfl) (by kernel_rfl) (fun _ _ _ h => h) (Or.inl ⟨by rfl, fun V hV => ?_⟩) (by assumption) ?_
          rotate_left
          · go_simp
            try with_reducible rfl
          try simp only [Act.put, List.getElem_toArray, List.getElem_cons_zero, List.getElem_cons_succ, List.setIfInBounds_toArray, List.set_cons_zero, List.set_cons_succ]
          refine wpAnyH_take (i := 9) (v := ?_) rfl (by kernel_rfl) (by kernel_rfl) (by kernel_rfl) (fun _ _ _ h => h) (Or.inl ⟨by rfl, fun V hV => ?_⟩) (by assumption) ?_
          rotate_left
          · go_simp
            try with_reducible rfl
          try simp only [Act.put, List.getElem_toArray, List.getElem_cons_zero, List.getElem_cons_succ, List.setIfInBounds_toArray, List.set_cons_zero, List.set_cons_succ]
          refine wpAnyH_take (i := 10) (v := ?_) rfl (by kernel_rfl) (by kernel_rfl) (by kernel_rfl) (fun _ _ _ h => h) (Or.inl ⟨by rfl, fun V hV => ?_⟩) (by assumption) ?_
          rotate_left
          · go_simp
            try with_reducible rfl
          try simp only [Act.put, List.getElem_toArray, List.getElem_cons_zero, List.getElem_cons_succ, List.setIfInBounds_toArray, List.set_cons_zero, List.set_cons_succ]
          refine wpAnyH_take (i := 11) (v := ?_) rfl (by kernel_rfl) (by kernel_rfl) (by kernel_rfl) (fun _ _ _ h => h) (Or.inl ⟨by rfl, fun V hV => ?_⟩) (by assumption) ?_
          rotate_left
          · go_simp
            try with_reducible rfl
          try simp only [Act.put, List.getElem_toArray, List.getElem_cons_zero, List.getElem_cons_succ, List.setIfInBounds_toArray, List.set_cons_zero, List.set_cons_succ]
          refine wpAnyH_take (i := 12) (v := ?_) rfl (by kernel_rfl) (by kernel_rfl) (by kernel_rfl) (fun _ _ _ h => h) (Or.inl ⟨by rfl, fun V hV => ?_⟩) (by assumption) ?_
          rotate_left
          · go_simp
            try with_reducible rfl
          try simp only [Act.put, List.getElem_toArray, List.getElem_cons_zero, List.getElem_cons_succ, List.setIfInBounds_toArray, List.set_cons_zero, List.set_cons_succ]
          refine wpAnyH_take (i := 13) (v := ?_) rfl (by kernel_rfl) (by kernel_rfl) (by kernel_rfl) (fun _ _ _ h => h) (Or.inl ⟨by rfl, fun V hV => ?_⟩) (by assumption) ?_
          rotate_left
          · go_simp
            try with_reducible rfl
          try simp only [Act.put, List.getElem_toArray, List.getElem_cons_zero, List.getElem_cons_succ, List.setIfInBounds_toArray, List.set_cons_zero, List.set_cons_succ]
          refine wpAnyH_take (i := 14) (v := undef) rfl (by kernel_rfl) (by kernel_rfl) (by kernel_rfl) (fun _ _ _ h => h) (Or.inr ⟨by rfl, rfl⟩) (by assumption) ?_
          try simp only [Act.put, List.getElem_toArray, List.getElem_cons_zero, List.getElem_cons_succ, List.setIfInBounds_toArray, List.set_cons_zero, List.set_cons_succ]
          refine wpAnyH_take (i := 15) (v := undef) rfl (by kernel_rfl) (by kernel_rfl) (by kernel_rfl) (fun _ _ _ h => h) (Or.inr ⟨by rfl, rfl⟩) (by assumption) ?_
          try simp only [Act.put, List.getElem_toArray, List.getElem_cons_zero, List.getElem_cons_succ, List.setIfInBounds_toArray, List.set_cons_zero, List.set_cons_succ]
          refine wpAnyH_take (i := 16) (v := undef) rfl (by kernel_rfl) (by kernel_rfl) (by kernel_rfl) (fun _ _ _ h => h) (Or.inr ⟨by rfl, rfl⟩) (by assumption) ?_
          try simp only [Act.put, List.getElem_toArray, List.getElem_cons_zero, List.getElem_cons_succ, List.setIfInBounds_toArray, List.set_cons_zero, List.set_cons_succ]
          refine wpAnyH_take (i := 17) (v := ?_) rfl (by kernel_rfl) (by kernel_rfl) (by kernel_rfl) (fun _ _ _ h => h) (Or.inl ⟨by rfl, fun V hV => ?_⟩) (by assumption) ?_
          rotate_left
          · go_simp
            try with_reducible rfl
          try simp only [Act.put, List.getElem_toArray, List.getElem_cons_zero, List.getElem_cons_succ, List.setIfInBounds_toArray, List.set_cons_zero, List.set_cons_succ]
          refine wpAnyH_take (i := 18) (v := ?_) rfl (by kernel_rfl) (by kernel_rfl) (by kernel_rfl) (fun _ _ _ h => h) (Or.inl ⟨by rfl, fun V hV => ?_⟩) (by assumption) ?_
          rotate_left
          · go_simp
            try with_reducible rfl
          try simp only [Act.put, List.getElem_toArray, List.getElem_cons_zero, List.getElem_cons_succ, List.setIfInBounds_toArray, List.set_cons_zero, List.set_cons_succ]
          refine wpAnyH_done (by kernel_rfl) ?_ _
          have HSX := hid hS
          clear hS
          have ⟨t0, t1⟩ := HSX.out.2.1; have ⟨u0, u1⟩ := HSX.out.2.2.1
          have g0 := HSX.out.1.c0; have g1 := HSX.out.1.c1; have g2 := HSX.out.1.c2; have g3 := HSX.out.1.c3; have g4 := HSX.out.1.c4
          go_wp2_with fail
          refine wp_region_held_drew (S := fun V => SAt w r cc p n c l sm q m d cs V ∧ TwoAt V _ b1 b2 ∧ TwoAt V _ h1 h2 ∧ IntsAt V pt nt T) (by kernel_rfl) (⟨HSX.out.1.drewN 1, HSX.out.2.1, HSX.out.2.2.1, HSX.out.2.2.2⟩) (fun hS => ?_)
          simp only [List.size_toArray, List.length_cons, List.length_nil, Nat.reduceAdd, Array.replicate_succ, Array.replicate_zero, List.push_toArray, List.nil_append, List.cons_append]
          refine wpAnyH_take (i := 0) (v := ?_) rfl (by kernel_rfl) (by kernel_rfl) (by kernel_rfl) (fun _ _ _ h => h) (Or.inl ⟨by rfl, fun V hV => ?_⟩) (by assumption) ?_
          rotate_left
          · have ⟨u0, u1⟩ := hV.2.2.1; go_simp
            try with_reducible rfl
          try simp only [Act.put, List.getElem_toArray, List.getElem_cons_zero, List.setIfInBounds_toArray, List.set_cons_zero, List.set_cons_succ]
          refine wpAnyH_take (i := 1) (v := ?_) rfl (by kernel_rfl) (by kernel_rfl) (by kernel_rfl) (fun _ _ _ h => h) (Or.inl ⟨by rfl, fun V hV => ?_⟩) (by assumption) ?_
          rotate_left
          · have g0 := hV.1.c0; have g1 := hV.1.c1; have g2 := hV.1.c2; have g3 := hV.1.c3; have g4 := hV.1.c4; go_simp
            try with_reducible rfl
          try simp only [Act.put, List.getElem_toArray, List.getElem_cons_zero, List.getElem_cons_succ, List.setIfInBounds_toArray, List.set_cons_zero, List.set_cons_succ]
          refine wpAnyH_take (i := 2) (v := ?_) rfl (by kernel_rfl) (by kernel_rfl) (by kernel_rfl) (fun _ _ _ h => h) (Or.inl ⟨by rfl, fun V hV => ?_⟩) (by assumption) ?_
          rotate_left
          · go_simp
            try with_reducible rfl
          try simp only [Act.put, List.getElem_toArray, List.getElem_cons_zero, List.getElem_cons_succ, List.setIfInBounds_toArray, List.set_cons_zero, List.set_cons_succ]
          refine wpAnyH_take (i := 3) (v := ?_) rfl (by kernel_rfl) (by kernel_rfl) (by kernel_rfl) (fun _ _ _ h => h) (Or.inl ⟨by rfl, fun V hV => ?_⟩) (by assumption) ?_
          rotate_left
          · go_simp
            try with_reducible rfl
          try simp only [Act.put, List.getElem_toArray, List.getElem_cons_zero, List.getElem_cons_succ, List.setIfInBounds_toArray, List.set_cons_zero, List.set_cons_succ]
          refine wpAnyH_ready (rs := [4]) (by kernel_rfl) (by simp) ?_
          refine AllReadyH.cons (o := _) rfl (fun K hK => ?_) AllReadyH.nil
          go_simp
          refine (hits_any r cc p n c l sm q m d cs pt nt ct T pl _ hS.1.ints hS.2.2.2 HZ.out (oks_of HF.out) (fun x hx => by have := HOK.out.num x hx; omega) HPL.out).mono ?_
          rintro e w83 ⟨rfl, hb⟩
          rw [← HHV.out.1, ← HHV.out.2]
          refine hK.out _ _ (⟨hS.1.step hb, hS.2.1.below hb, hS.2.2.1.below hb, hS.2.2.2.below hb⟩) (fun hS => ?_)
          clear hK K
          try simp only [List.setIfInBounds_toArray, List.set_cons_zero, List.set_cons_succ]
          refine wpAnyH_ready (rs := [5]) (by kernel_rfl) (by simp) ?_
          refine AllReadyH.cons (o := _) rfl (fun K hK => ?_) AllReadyH.nil
          go_simp
          refine (to_any _ _ _).mono ?_
          rintro e w84 ⟨rfl, hb⟩
          refine hK.out _ _ (⟨hS.1.step hb, hS.2.1.below hb, hS.2.2.1.below hb, hS.2.2.2.below hb⟩) (fun hS => ?_)
          clear hK K
          try simp only [List.setIfInBounds_toArray, List.set_cons_zero, List.set_cons_succ]
          refine wpAnyH_take (i := 6) (v := ?_) rfl (by kernel_rfl) (by kernel_rfl) (by kernel_rfl) (fun _ _ _ h => h) (Or.inl ⟨by rfl, fun V hV => ?_⟩) (by assumption) ?_
          rotate_left
          · go_simp
            try with_reducible rfl
          try simp only [Act.put, List.getElem_toArray, List.getElem_cons_zero, List.getElem_cons_succ, List.setIfInBounds_toArray, List.set_cons_zero, List.set_cons_succ]
          refine wpAnyH_take (i := 7) (v := ?_) rfl (by kernel_rfl) (by kernel_rfl) (by kernel_rfl) (fun _ _ _ h => h) (Or.inl ⟨by rfl, fun V hV => ?_⟩) (by assumption) ?_
          rotate_left
          · go_simp
            try with_reducible rfl
          try simp only [Act.put, List.getElem_toArray, List.getElem_cons_zero, List.getElem_cons_succ, List.setIfInBounds_toArray, List.set_cons_zero, List.set_cons_succ]
          refine wpAnyH_ready (rs := [8]) (by kernel_rfl) (by simp) ?_
          refine AllReadyH.cons (o := _) rfl (fun K hK => ?_) AllReadyH.nil
          go_simp
          refine (awake_any _).mono ?_
          rintro e w85 ⟨rfl, hb⟩
          refine hK.out _ _ (⟨hS.1.step hb, hS.2.1.below hb, hS.2.2.1.below hb, hS.2.2.2.below hb⟩) (fun hS => ?_)
          clear hK K
          try simp only [List.setIfInBounds_toArray, List.set_cons_zero, List.set_cons_succ]
          refine wpAnyH_take (i := 9) (v := ?_) rfl (by kernel_rfl) (by kernel_rfl) (by kernel_rfl) (fun _ _ _ h => h) (Or.inl ⟨by rfl, fun V hV => ?_⟩) (by assumption) ?_
          rotate_left
          · go_simp
            try with_reducible rfl
          try simp only [Act.put, List.getElem_toArray, List.getElem_cons_zero, List.getElem_cons_succ, List.setIfInBounds_toArray, List.set_cons_zero, List.set_cons_succ]
          refine wpAnyH_take (i := 10) (v := ?_) rfl (by kernel_rfl) (by kernel_rfl) (by kernel_rfl) (fun _ _ _ h => h) (Or.inl ⟨by rfl, fun V hV => ?_⟩) (by assumption) ?_
          rotate_left
          · go_simp
            try with_reducible rfl
          try simp only [Act.put, List.getElem_toArray, List.getElem_cons_zero, List.getElem_cons_succ, List.setIfInBounds_toArray, List.set_cons_zero, List.set_cons_succ]
          refine wpAnyH_done (by kernel_rfl) ?_ _
          go_wp2
          go_ret
          exact ⟨rfl, hS.1.below⟩
        · have hne : se ≠ 0 := hse
          have hned : se ≠ 0 := hse
          have hneb : (se == 0) = false := by simp [hse]
          have hneb2 : (se != 0) = true := by simp [hse]
          rw [HDU.out] at HHD
          have eb3 : b3 = se := HBS.out.1
          have eh3 : h3 = se := HHD.out.1
          subst eb3 eh3
          have eb := HBS.out.2.1 hne
          obtain ⟨rfl, rfl⟩ := eb
          have eh := HHD.out.2.1 hned
          obtain ⟨rfl, rfl⟩ := eh
          clear HBS HHD HTT
          have ⟨t0, t1⟩ := HTB10.out
          have ⟨u0, u1⟩ := HTH10.out
          go_wp2_with fail
          refine wp_region_held_drew (S := fun V => SAt w r cc p n c l sm q m d cs V ∧ TwoAt V _ 0 0 ∧ TwoAt V _ 0 0 ∧ IntsAt V pt nt T) (by kernel_rfl) (⟨HS10.out.drewN 1, HTB10.out, HTH10.out, HT10.out⟩) (fun hS => ?_)
          simp only [List.size_toArray, List.length_cons, List.length_nil, Nat.reduceAdd, Array.replicate_succ, Array.replicate_zero, List.push_toArray, List.nil_append, List.cons_append]
          refine wpAnyH_take (i := 0) (v := ?_) rfl (by kernel_rfl) (by kernel_rfl) (by kernel_rfl) (fun _ _ _ h => h) (Or.inl ⟨by rfl, fun V hV => ?_⟩) (by assumption) ?_
          rotate_left
          · go_simp
            try with_reducible rfl
          try simp only [Act.put, List.getElem_toArray, List.getElem_cons_zero, List.setIfInBounds_toArray, List.set_cons_zero, List.set_cons_succ]
          refine wpAnyH_take (i := 1) (v := ?_) rfl (by kernel_rfl) (by kernel_rfl) (by kernel_rfl) (fun _ _ _ h => h) (Or.inl ⟨by rfl, fun V hV => ?_⟩) (by assumption) ?_
          rotate_left
          · go_simp
            try with_reducible rfl
          try simp only [Act.put, List.getElem_toArray, List.getElem_cons_zero, List.getElem_cons_succ, List.setIfInBounds_toArray, List.set_cons_zero, List.set_cons_succ]
          refine wpAnyH_take (i := 2) (v := ?_) rfl (by kernel_rfl) (by kernel_rfl) (by kernel_rfl) (fun _ _ _ h => h) (Or.inl ⟨by rfl, fun V hV => ?_⟩) (by assumption) ?_
          rotate_left
          · go_simp
            try with_reducible rfl
          try simp only [Act.put, List.getElem_toArray, List.getElem_cons_zero, List.getElem_cons_succ, List.setIfInBounds_toArray, List.set_cons_zero, List.set_cons_succ]
          refine wpAnyH_take (i := 3) (v := undef) rfl (by kernel_rfl) (by kernel_rfl) (by kernel_rfl) (fun _ _ _ h => h) (Or.inr ⟨by rfl, rfl⟩) (by assumption) ?_
          try simp only [Act.put, List.getElem_toArray, List.getElem_cons_zero, List.getElem_cons_succ, List.setIfInBounds_toArray, List.set_cons_zero, List.set_cons_succ]
          refine wpAnyH_take (i := 4) (v := undef) rfl (by kernel_rfl) (by kernel_rfl) (by kernel_rfl) (fun _ _ _ h => h) (Or.inr ⟨by rfl, rfl⟩) (by assumption) ?_
          try simp only [Act.put, List.getElem_toArray, List.getElem_cons_zero, List.getElem_cons_succ, List.setIfInBounds_toArray, List.set_cons_zero, List.set_cons_succ]
          refine wpAnyH_take (i := 5) (v := undef) rfl (by kernel_rfl) (by kernel_rfl) (by kernel_rfl) (fun _ _ _ h => h) (Or.inr ⟨by rfl, rfl⟩) (by assumption) ?_
          try simp only [Act.put, List.getElem_toArray, List.getElem_cons_zero, List.getElem_cons_succ, List.setIfInBounds_toArray, List.set_cons_zero, List.set_cons_succ]
          refine wpAnyH_take (i := 6) (v := undef) rfl (by kernel_rfl) (by kernel_rfl) (by kernel_rfl) (fun _ _ _ h => h) (Or.inr ⟨by rfl, rfl⟩) (by assumption) ?_
          try simp only [Act.put, List.getElem_toArray, List.getElem_cons_zero, List.getElem_cons_succ, List.setIfInBounds_toArray, List.set_cons_zero, List.set_cons_succ]
          refine wpAnyH_take (i := 7) (v := undef) rfl (by kernel_rfl) (by kernel_rfl) (by kernel_rfl) (fun _ _ _ h => h) (Or.inr ⟨by rfl, rfl⟩) (by assumption) ?_
          try simp only [Act.put, List.getElem_toArray, List.getElem_cons_zero, List.getElem_cons_succ, List.setIfInBounds_toArray, List.set_cons_zero, List.set_cons_succ]
          refine wpAnyH_take (i := 8) (v := undef) rfl (by kernel_rfl) (by kernel_rfl) (by kernel_rfl) (fun _ _ _ h => h) (Or.inr ⟨by rfl, rfl⟩) (by assumption) ?_
          try simp only [Act.put, List.getElem_toArray, List.getElem_cons_zero, List.getElem_cons_succ, List.setIfInBounds_toArray, List.set_cons_zero, List.set_cons_succ]
          refine wpAnyH_take (i := 9) (v := ?_) rfl (by kernel_rfl) (by kernel_rfl) (by kernel_rfl) (fun _ _ _ h => h) (Or.inl ⟨by rfl, fun V hV => ?_⟩) (by assumption) ?_
          rotate_left
          · go_simp
            try with_reducible rfl
          try simp only [Act.put, List.getElem_toArray, List.getElem_cons_zero, List.getElem_cons_succ, List.setIfInBounds_toArray, List.set_cons_zero, List.set_cons_succ]
          refine wpAnyH_take (i := 10) (v := ?_) rfl (by kernel_rfl) (by kernel_rfl) (by kernel_rfl) (fun _ _ _ h => h) (Or.inl ⟨by rfl, fun V hV => ?_⟩) (by assumption) ?_
          rotate_left
          · go_simp
            try with_reducible rfl
          try simp only [Act.put, List.getElem_toArray, List.getElem_cons_zero, List.getElem_cons_succ, List.setIfInBounds_toArray, List.set_cons_zero, List.set_cons_succ]
          refine wpAnyH_take (i := 11) (v := ?_) rfl (by kernel_rfl) (by kernel_rfl) (by kernel_rfl) (fun _ _ _ h => h) (Or.inl ⟨by rfl, fun V hV => ?_⟩) (by assumption) ?_
          rotate_left
          · go_simp
            try with_reducible rfl
          try simp only [Act.put, List.getElem_toArray, List.getElem_cons_zero, List.getElem_cons_succ, List.setIfInBounds_toArray, List.set_cons_zero, List.set_cons_succ]
          refine wpAnyH_take (i := 12) (v := ?_) rfl (by kernel_rfl) (by kernel_rfl) (by kernel_rfl) (fun _ _ _ h => h) (Or.inl ⟨by rfl, fun V hV => ?_⟩) (by assumption) ?_
          rotate_left
          · go_simp
            try with_reducible rfl
          try simp only [Act.put, List.getElem_toArray, List.getElem_cons_zero, List.getElem_cons_succ, List.setIfInBounds_toArray, List.set_cons_zero, List.set_cons_succ]
          refine wpAnyH_take (i := 13) (v := ?_) rfl (by kernel_rfl) (by kernel_rfl) (by kernel_rfl) (fun _ _ _ h => h) (Or.inl ⟨by rfl, fun V hV => ?_⟩) (by assumption) ?_
          rotate_left
          · go_simp
            try with_reducible rfl
          try simp only [Act.put, List.getElem_toArray, List.getElem_cons_zero, List.getElem_cons_succ, List.setIfInBounds_toArray, List.set_cons_zero, List.set_cons_succ]
          refine wpAnyH_take (i := 14) (v := ?_) rfl (by kernel_rfl) (by kernel_rfl) (by kernel_rfl) (fun _ _ _ h => h) (Or.inl ⟨by rfl, fun V hV => ?_⟩) (by assumption) ?_
          rotate_left
          · have ⟨t0, t1⟩ := hV.2.1; go_simp
            try with_reducible rfl
          try simp only [Act.put, List.getElem_toArray, List.getElem_cons_zero, List.getElem_cons_succ, List.setIfInBounds_toArray, List.set_cons_zero, List.set_cons_succ]
          refine wpAnyH_take (i := 15) (v := ?_) rfl (by kernel_rfl) (by kernel_rfl) (by kernel_rfl) (fun _ _ _ h => h) (Or.inl ⟨by rfl, fun V hV => ?_⟩) (by assumption) ?_
          rotate_left
          · go_simp
            try with_reducible rfl
          try simp only [Act.put, List.getElem_toArray, List.getElem_cons_zero, List.getElem_cons_succ, List.setIfInBounds_toArray, List.set_cons_zero, List.set_cons_succ]
          refine wpAnyH_take (i := 16) (v := ?_) rfl (by kernel_rfl) (by kernel_rfl) (by kernel_rfl) (fun _ _ _ h => h) (Or.inl ⟨by rfl, fun V hV => ?_⟩) (by assumption) ?_
          rotate_left
          · go_simp
            try with_reducible rfl
          try simp only [Act.put, List.getElem_toArray, List.getElem_cons_zero, List.getElem_cons_succ, List.setIfInBounds_toArray, List.set_cons_zero, List.set_cons_succ]
          refine wpAnyH_take (i := 17) (v := ?_) rfl (by kernel_rfl) (by kernel_rfl) (by kernel_rfl) (fun _ _ _ h => h) (Or.inl ⟨by rfl, fun V hV => ?_⟩) (by assumption) ?_
          rotate_left
          · go_simp
            try with_reducible rfl
          try simp only [Act.put, List.getElem_toArray, List.getElem_cons_zero, List.getElem_cons_succ, List.setIfInBounds_toArray, List.set_cons_zero, List.set_cons_succ]
          refine wpAnyH_take (i := 18) (v := ?_) rfl (by kernel_rfl) (by kernel_rfl) (by kernel_rfl) (fun _ _ _ h => h) (Or.inl ⟨by rfl, fun V hV => ?_⟩) (by assumption) ?_
          rotate_left
          · go_simp
            try with_reducible rfl
          try simp only [Act.put, List.getElem_toArray, List.getElem_cons_zero, List.getElem_cons_succ, List.setIfInBounds_toArray, List.set_cons_zero, List.set_cons_succ]
          refine wpAnyH_done (by kernel_rfl) ?_ _
          have HSX := hid hS
          clear hS
          have ⟨t0, t1⟩ := HSX.out.2.1; have ⟨u0, u1⟩ := HSX.out.2.2.1
          have g0 := HSX.out.1.c0; have g1 := HSX.out.1.c1; have g2 := HSX.out.1.c2; have g3 := HSX.out.1.c3; have g4 := HSX.out.1.c4
          go_wp2_with fail
          refine (awake_any _).mono ?_
          rintro e w99 ⟨rfl, hb⟩
          go_wp2_with fail
          go_ret
          exact ⟨rfl, HSX.out.1.below.trans (hb.mono HSX.out.1.below.size)⟩
      · have hi' : inB place 0 ((l.length : Int) - 1) = false := by simpa using hi
        have HDU : Hid (dueH r cc l sm cs place = 2) := by show dueH _ _ _ _ _ _ = _; unfold dueH; rw [if_pos ⟨HF0.out, hi'⟩]
        rw [hi']
        clear hi hi'
        have hned : (2 : Int) ≠ 0 := by decide
        by_cases hse : se = 0
        · subst hse
          rw [HDU.out] at HHD
          have eb3 : b3 = 0 := HBS.out.1
          have eh3 : h3 = 2 := HHD.out.1
          subst eb3 eh3
          have eh := HHD.out.2.1 hned
          obtain ⟨rfl, rfl⟩ := eh
          have hT : T = truthsL cc l sm cs 0 := by have h9 : T = sureV r cc l sm cs := HTT.out; rw [h9, sureV, if_pos (HBS.out.2.2 rfl).1]
          have HF := hid (HBS.out.2.2 rfl).1
          have hok := truths_ok HF.out
          have hBS := (HBS.out.2.2 rfl).2.2
          rw [← hT] at hok hBS
          have HOK := hid hok
          have HBV := hid hBS
          have HZ : Hid (nt ≤ 4000) := by have h1 := HT10.out.1; have h2 := hok.few; show nt ≤ 4000; omega
          clear hT hok hBS
          clear HBS HHD HTT
          have ⟨t0, t1⟩ := HTB10.out
          have ⟨u0, u1⟩ := HTH10.out
          go_wp2_with fail
          refine wp_region_held_drew (S := fun V => SAt w r cc p n c l sm q m d cs V ∧ TwoAt V _ b1 b2 ∧ TwoAt V _ 0 0 ∧ IntsAt V pt nt T) (by kernel_rfl) (⟨HS10.out.drewN 1, HTB10.out, HTH10.out, HT10.out⟩) (fun hS => ?_)
          simp only [List.size_toArray, List.length_cons, List.length_nil, Nat.reduceAdd, Array.replicate_succ, Array.replicate_zero, List.push_toArray, List.nil_append, List.cons_append]
          refine wpAnyH_take (i := 0) (v := ?_) rfl (by kernel_rfl) (by kernel_rfl) (by kernel_rfl) (fun _ _ _ h => h) (Or.inl ⟨by rfl, fun V hV => ?_⟩) (by assumption) ?_
          rotate_left
          · go_simp
            try with_reducible rfl
          try simp only [Act.put, List.getElem_toArray, List.getElem_cons_zero, List.setIfInBounds_toArray, List.set_cons_zero, List.set_cons_succ]
          refine wpAnyH_take (i := 1) (v := ?_) rfl (by kernel_rfl) (by kernel_rfl) (by kernel_rfl) (fun _ _ _ h => h) (Or.inl ⟨by rfl, fun V hV => ?_⟩) (by assumption) ?_
          rotate_left
          · go_simp
            try with_reducible rfl
          try simp only [Act.put, List.getElem_toArray, List.getElem_cons_zero, List.getElem_cons_succ, List.setIfInBounds_toArray, List.set_cons_zero, List.set_cons_succ]
          refine wpAnyH_take (i := 2) (v := ?_) rfl (by kernel_rfl) (by kernel_rfl) (by kernel_rfl) (fun _ _ _ h => h) (Or.inl ⟨by rfl, fun V hV => ?_⟩) (by assumption) ?_
          rotate_left
          · go_simp
            try with_reducible rfl
          try simp only [Act.put, List.getElem_toArray, List.getElem_cons_zero, List.getElem_cons_succ, List.setIfInBounds_toArray, List.set_cons_zero, List.set_cons_succ]
          refine wpAnyH_take (i := 3) (v := ?_) rfl (by kernel_rfl) (by kernel_rfl) (by kernel_rfl) (fun _ _ _ h => h) (Or.inl ⟨by rfl, fun V hV => ?_⟩) (by assumption) ?_
          rotate_left
          · have ⟨t0, t1⟩ := hV.2.1; go_simp
            try with_reducible rfl
          try simp only [Act.put, List.getElem_toArray, List.getElem_cons_zero, List.getElem_cons_succ, List.setIfInBounds_toArray, List.set_cons_zero, List.set_cons_succ]
          refine wpAnyH_take (i := 4) (v := ?_) rfl (by kernel_rfl) (by kernel_rfl) (by kernel_rfl) (fun _ _ _ h => h) (Or.inl ⟨by rfl, fun V hV => ?_⟩) (by assumption) ?_
          rotate_left
          · have g0 := hV.1.c0; have g1 := hV.1.c1; have g2 := hV.1.c2; have g3 := hV.1.c3; have g4 := hV.1.c4; go_simp
            try with_reducible rfl
          try simp only [Act.put, List.getElem_toArray, List.getElem_cons_zero, List.getElem_cons_succ, List.setIfInBounds_toArray, List.set_cons_zero, List.set_cons_succ]
          refine wpAnyH_take (i := 5) (v := ?_) rfl (by kernel_rfl) (by kernel_rfl) (by kernel_rfl) (fun _ _ _ h => h) (Or.inl ⟨by rfl, fun V hV => ?_⟩) (by assumption) ?_
          rotate_left
          · go_simp
            try with_reducible rfl
          try simp only [Act.put, List.getElem_toArray, List.getElem_cons_zero, List.getElem_cons_succ, List.setIfInBounds_toArray, List.set_cons_zero, List.set_cons_succ]
          refine wpAnyH_ready (rs := [6]) (by kernel_rfl) (by simp) ?_
          refine AllReadyH.cons (o := _) rfl (fun K hK => ?_) AllReadyH.nil
          go_simp
          refine (bounds_any r cc p n c l sm q m d cs pt nt ct T _ hS.1.ints hS.2.2.2 HZ.out (oks_of HF.out) (fun x hx => by have := HOK.out.num x hx; omega)).mono ?_
          rintro e w81 ⟨rfl, hb⟩
          rw [← HBV.out.1, ← HBV.out.2]
          refine hK.out _ _ (⟨hS.1.step hb, hS.2.1.below hb, hS.2.2.1.below hb, hS.2.2.2.below hb⟩) (fun hS => ?_)
          clear hK K
          try simp only [List.setIfInBounds_toArray, List.set_cons_zero, List.set_cons_succ]
          refine wpAnyH_ready (rs := [7]) (by kernel_rfl) (by simp) ?_
          refine AllReadyH.cons (o := _) rfl (fun K hK => ?_) AllReadyH.nil
          go_simp
          refine (to_any _ _ _).mono ?_
          rintro e w82 ⟨rfl, hb⟩
          refine hK.out _ _ (⟨hS.1.step hb, hS.2.1.below hb, hS.2.2.1.below hb, hS.2.2.2.below hb⟩) (fun hS => ?_)
          clear hK K
          try simp only [List.setIfInBounds_toArray, List.set_cons_zero, List.set_cons_succ]
          refine wpAnyH_take (i := 8) (v := ?_) rfl (by kernel_rfl) (by kernel_rfl) (by kernel_rfl) (fun _ _ _ h => h) (Or.inl ⟨by rfl, fun V hV => ?_⟩) (by assumption) ?_
          rotate_left
          · go_simp
            try with_reducible rfl
          try simp only [Act.put, List.getElem_toArray, List.getElem_cons_zero, List.getElem_cons_succ, List.setIfInBounds_toArray, List.set_cons_zero, List.set_cons_succ]
          refine wpAnyH_take (i := 9) (v := ?_) rfl (by kernel_rfl) (by kernel_rfl) (by kernel_rfl) (fun _ _ _ h => h) (Or.inl ⟨by rfl, fun V hV => ?_⟩) (by assumption) ?_
          rotate_left
          · go_simp
            try with_reducible rfl
          try simp only [Act.put, List.getElem_toArray, List.getElem_cons_zero, List.getElem_cons_succ, List.setIfInBounds_toArray, List.set_cons_zero, List.set_cons_succ]
          refine wpAnyH_take (i := 10) (v := ?_) rfl (by kernel_rfl) (by kernel_rfl) (by kernel_rfl) (fun _ _ _ h => h) (Or.inl ⟨by rfl, fun V hV => ?_⟩) (by assumption) ?_
          rotate_left
          · go_simp
            try with_reducible rfl
          try simp only [Act.put, List.getElem_toArray, List.getElem_cons_zero, List.getElem_cons_succ, List.setIfInBounds_toArray, List.set_cons_zero, List.set_cons_succ]
          refine wpAnyH_take (i := 11) (v := ?_) rfl (by kernel_rfl) (by kernel_rfl) (by kernel_rfl) (fun _ _ _ h => h) (Or.inl ⟨by rfl, fun V hV => ?_⟩) (by assumption) ?_
          rotate_left
          · go_simp
            try with_reducible rfl
          try simp only [Act.put, List.getElem_toArray, List.getElem_cons_zero, List.getElem_cons_succ, List.setIfInBounds_toArray, List.set_cons_zero, List.set_cons_succ]
          refine wpAnyH_take (i := 12) (v := ?_) rfl (by kernel_rfl) (by kernel_rfl) (by kernel_rfl) (fun _ _ _ h => h) (Or.inl ⟨by rfl, fun V hV => ?_⟩) (by assumption) ?_
          rotate_left
          · go_simp
            try with_reducible rfl
          try simp only [Act.put, List.getElem_toArray, List.getElem_cons_zero, List.getElem_cons_succ, List.setIfInBounds_toArray, List.set_cons_zero, List.set_cons_succ]
          refine wpAnyH_take (i := 13) (v := ?_) rfl (by kernel_rfl) (by kernel_rfl) (by kernel_rfl) (fun _ _ _ h => h) (Or.inl ⟨by rfl, fun V hV => ?_⟩) (by assumption) ?_
          rotate_left
          · go_simp
            try with_reducible rfl
          try simp only [Act.put, List.getElem_toArray, List.getElem_cons_zero, List.getElem_cons_succ, List.setIfInBounds_toArray, List.set_cons_zero, List.set_cons_succ]
          refine wpAnyH_take (i := 14) (v := undef) rfl (by kernel_rfl) (by kernel_rfl) (by kernel_rfl) (fun _ _ _ h => h) (Or.inr ⟨by rfl, rfl⟩) (by assumption) ?_
          try simp only [Act.put, List.getElem_toArray, List.getElem_cons_zero, List.getElem_cons_succ, List.setIfInBounds_toArray, List.set_cons_zero, List.set_cons_succ]
          refine wpAnyH_take (i := 15) (v := undef) rfl (by kernel_rfl) (by kernel_rfl) (by kernel_rfl) (fun _ _ _ h => h) (Or.inr ⟨by rfl, rfl⟩) (by assumption) ?_
          try simp only [Act.put, List.getElem_toArray, List.getElem_cons_zero, List.getElem_cons_succ, List.setIfInBounds_toArray, List.set_cons_zero, List.set_cons_succ]
          refine wpAnyH_take (i := 16) (v := undef) rfl (by kernel_rfl) (by kernel_rfl) (by kernel_rfl) (fun _ _ _ h => h) (Or.inr ⟨by rfl, rfl⟩) (by assumption) ?_
          try simp only [Act.put, List.getElem_toArray, List.getElem_cons_zero, List.getElem_cons_succ, List.setIfInBounds_toArray, List.set_cons_zero, List.set_cons_succ]
          refine wpAnyH_take (i := 17) (v := ?_) rfl (by kernel_rfl) (by kernel_rfl) (by kernel_rfl) (fun _ _ _ h => h) (Or.inl ⟨by rfl, fun V hV => ?_⟩) (by assumption) ?_
          rotate_left
          · go_simp
            try with_reducible rfl
          try simp only [Act.put, List.getElem_toArray, List.getElem_cons_zero, List.getElem_cons_succ, List.setIfInBounds_toArray, List.set_cons_zero, List.set_cons_succ]
          refine wpAnyH_take (i := 18) (v := ?_) rfl (by kernel_rfl) (by kernel_rfl) (by kernel_rfl) (fun _ _ _ h => h) (Or.inl ⟨by rfl, fun V hV => ?_⟩) (by assumption) ?_
          rotate_left
          · go_simp
            try with_reducible rfl
          try simp only [Act.put, List.getElem_toArray, List.getElem_cons_zero, List.getElem_cons_succ, List.setIfInBounds_toArray, List.set_cons_zero, List.set_cons_succ]
          refine wpAnyH_done (by kernel_rfl) ?_ _
          have HSX := hid hS
          clear hS
          have ⟨t0, t1⟩ := HSX.out.2.1; have ⟨u0, u1⟩ := HSX.out.2.2.1
          have g0 := HSX.out.1.c0; have g1 := HSX.out.1.c1; have g2 := HSX.out.1.c2; have g3 := HSX.out.1.c3; have g4 := HSX.out.1.c4
          go_wp2_with fail
          refine (awake_any _).mono ?_
          rintro e w99 ⟨rfl, hb⟩
          go_wp2_with fail
          go_ret
          exact ⟨rfl, HSX.out.1.below.trans (hb.mono HSX.out.1.below.size)⟩
        · have hne : se ≠ 0 := hse
          have hneb : (se == 0) = false := by simp [hse]
          have hneb2 : (se != 0) = true := by simp [hse]
          rw [HDU.out] at HHD
          have eb3 : b3 = se := HBS.out.1
          have eh3 : h3 = 2 := HHD.out.1
          subst eb3 eh3
          have eb := HBS.out.2.1 hne
          obtain ⟨rfl, rfl⟩ := eb
          have eh := HHD.out.2.1 hned
          obtain ⟨rfl, rfl⟩ := eh
          clear HBS HHD HTT
          have ⟨t0, t1⟩ := HTB10.out
          have ⟨u0, u1⟩ := HTH10.out
          go_wp2_with fail
          refine wp_region_held_drew (S := fun V => SAt w r cc p n c l sm q m d cs V ∧ TwoAt V _ 0 0 ∧ TwoAt V _ 0 0 ∧ IntsAt V pt nt T) (by kernel_rfl) (⟨HS10.out.drewN 1, HTB10.out, HTH10.out, HT10.out⟩) (fun hS => ?_)
          simp only [List.size_toArray, List.length_cons, List.length_nil, Nat.reduceAdd, Array.replicate_succ, Array.replicate_zero, List.push_toArray, List.nil_append, List.cons_append]
          refine wpAnyH_take (i := 0) (v := ?_) rfl (by kernel_rfl) (by kernel_rfl) (by kernel_rfl) (fun _ _ _ h => h) (Or.inl ⟨by rfl, fun V hV => ?_⟩) (by assumption) ?_
          rotate_left
          · go_simp
            try with_reducible rfl
          try simp only [Act.put, List.getElem_toArray, List.getElem_cons_zero, List.setIfInBounds_toArray, List.set_cons_zero, List.set_cons_succ]
          refine wpAnyH_take (i := 1) (v := ?_) rfl (by kernel_rfl) (by kernel_rfl) (by kernel_rfl) (fun _ _ _ h => h) (Or.inl ⟨by rfl, fun V hV => ?_⟩) (by assumption) ?_
          rotate_left
          · go_simp
            try with_reducible rfl
          try simp only [Act.put, List.getElem_toArray, List.getElem_cons_zero, List.getElem_cons_succ, List.setIfInBounds_toArray, List.set_cons_zero, List.set_cons_succ]
          refine wpAnyH_take (i := 2) (v := ?_) rfl (by kernel_rfl) (by kernel_rfl) (by kernel_rfl) (fun _ _ _ h => h) (Or.inl ⟨by rfl, fun V hV => ?_⟩) (by assumption) ?_
          rotate_left
          · go_simp
            try with_reducible rfl
          try simp only [Act.put, List.getElem_toArray, List.getElem_cons_zero, List.getElem_cons_succ, List.setIfInBounds_toArray, List.set_cons_zero, List.set_cons_succ]
          refine wpAnyH_take (i := 3) (v := undef) rfl (by kernel_rfl) (by kernel_rfl) (by kernel_rfl) (fun _ _ _ h => h) (Or.inr ⟨by rfl, rfl⟩) (by assumption) ?_
          try simp only [Act.put, List.getElem_toArray, List.getElem_cons_zero, List.getElem_cons_succ, List.setIfInBounds_toArray, List.set_cons_zero, List.set_cons_succ]
          refine wpAnyH_take (i := 4) (v := undef) rfl (by kernel_rfl) (by kernel_rfl) (by kernel_rfl) (fun _ _ _ h => h) (Or.inr ⟨by rfl, rfl⟩) (by assumption) ?_
          try simp only [Act.put, List.getElem_toArray, List.getElem_cons_zero, List.getElem_cons_succ, List.setIfInBounds_toArray, List.set_cons_zero, List.set_cons_succ]
          refine wpAnyH_take (i := 5) (v := undef) rfl (by kernel_rfl) (by kernel_rfl) (by kernel_rfl) (fun _ _ _ h => h) (Or.inr ⟨by rfl, rfl⟩) (by assumption) ?_
          try simp only [Act.put, List.getElem_toArray, List.getElem_cons_zero, List.getElem_cons_succ, List.setIfInBounds_toArray, List.set_cons_zero, List.set_cons_succ]
          refine wpAnyH_take (i := 6) (v := undef) rfl (by kernel_rfl) (by kernel_rfl) (by kernel_rfl) (fun _ _ _ h => h) (Or.inr ⟨by rfl, rfl⟩) (by assumption) ?_
          try simp only [Act.put, List.getElem_toArray, List.getElem_cons_zero, List.getElem_cons_succ, List.setIfInBounds_toArray, List.set_cons_zero, List.set_cons_succ]
          refine wpAnyH_take (i := 7) (v := undef) rfl (by kernel_rfl) (by kernel_rfl) (by kernel_rfl) (fun _ _ _ h => h) (Or.inr ⟨by rfl, rfl⟩) (by assumption) ?_
          try simp only [Act.put, List.getElem_toArray, List.getElem_cons_zero, List.getElem_cons_succ, List.setIfInBounds_toArray, List.set_cons_zero, List.set_cons_succ]
          refine wpAnyH_take (i := 8) (v := undef) rfl (by kernel_rfl) (by kernel_rfl) (by kernel_rfl) (fun _ _ _ h => h) (Or.inr ⟨by rfl, rfl⟩) (by assumption) ?_
          try simp only [Act.put, List.getElem_toArray, List.getElem_cons_zero, List.getElem_cons_succ, List.setIfInBounds_toArray, List.set_cons_zero, List.set_cons_succ]
          refine wpAnyH_take (i := 9) (v := ?_) rfl (by kernel_rfl) (by kernel_rfl) (by kernel_rfl) (fun _ _ _ h => h) (Or.inl ⟨by rfl, fun V hV => ?_⟩) (by assumption) ?_
          rotate_left
          · go_simp
            try with_reducible rfl
          try simp only [Act.put, List.getElem_toArray, List.getElem_cons_zero, List.getElem_cons_succ, List.setIfInBounds_toArray, List.set_cons_zero, List.set_cons_succ]
          refine wpAnyH_take (i := 10) (v := ?_) rfl (by kernel_rfl) (by kernel_rfl) (by kernel_rfl) (fun _ _ _ h => h) (Or.inl ⟨by rfl, fun V hV => ?_⟩) (by assumption) ?_
          rotate_left
          · go_simp
            try with_reducible rfl
          try simp only [Act.put, List.getElem_toArray, List.getElem_cons_zero, List.getElem_cons_succ, List.setIfInBounds_toArray, List.set_cons_zero, List.set_cons_succ]
          refine wpAnyH_take (i := 11) (v := ?_) rfl (by kernel_rfl) (by kernel_rfl) (by kernel_rfl) (fun _ _ _ h => h) (Or.inl ⟨by rfl, fun V hV => ?_⟩) (by assumption) ?_
          rotate_left
          · go_simp
            try with_reducible rfl
          try simp only [Act.put, List.getElem_toArray, List.getElem_cons_zero, List.getElem_cons_succ, List.setIfInBounds_toArray, List.set_cons_zero, List.set_cons_succ]
          refine wpAnyH_take (i := 12) (v := ?_) rfl (by kernel_rfl) (by kernel_rfl) (by kernel_rfl) (fun _ _ _ h => h) (Or.inl ⟨by rfl, fun V hV => ?_⟩) (by assumption) ?_
          rotate_left
          · go_simp
            try with_reducible rfl
          try simp only [Act.put, List.getElem_toArray, List.getElem_cons_zero, List.getElem_cons_succ, List.setIfInBounds_toArray, List.set_cons_zero, List.set_cons_succ]
          refine wpAnyH_take (i := 13) (v := ?_) rfl (by kernel_rfl) (by kernel_rfl) (by kernel_rfl) (fun _ _ _ h => h) (Or.inl ⟨by rfl, fun V hV => ?_⟩) (by assumption) ?_
          rotate_left
          · go_simp
            try with_reducible rfl
          try simp only [Act.put, List.getElem_toArray, List.getElem_cons_zero, List.getElem_cons_succ, List.setIfInBounds_toArray, List.set_cons_zero, List.set_cons_succ]
          refine wpAnyH_take (i := 14) (v := ?_) rfl (by kernel_rfl) (by kernel_rfl) (by kernel_rfl) (fun _ _ _ h => h) (Or.inl ⟨by rfl, fun V hV => ?_⟩) (by assumption) ?_
          rotate_left
          · have ⟨t0, t1⟩ := hV.2.1; go_simp
            try with_reducible rfl
          try simp only [Act.put, List.getElem_toArray, List.getElem_cons_zero, List.getElem_cons_succ, List.setIfInBounds_toArray, List.set_cons_zero, List.set_cons_succ]
          refine wpAnyH_take (i := 15) (v := ?_) rfl (by kernel_rfl) (by kernel_rfl) (by kernel_rfl) (fun _ _ _ h => h) (Or.inl ⟨by rfl, fun V hV => ?_⟩) (by assumption) ?_
          rotate_left
          · go_simp
            try with_reducible rfl
          try simp only [Act.put, List.getElem_toArray, List.getElem_cons_zero, List.getElem_cons_succ, List.setIfInBounds_toArray, List.set_cons_zero, List.set_cons_succ]
          refine wpAnyH_take (i := 16) (v := ?_) rfl (by kernel_rfl) (by kernel_rfl) (by kernel_rfl) (fun _ _ _ h => h) (Or.inl ⟨by rfl, fun V hV => ?_⟩) (by assumption) ?_
          rotate_left
          · go_simp
            try with_reducible rfl
          try simp only [Act.put, List.getElem_toArray, List.getElem_cons_zero, List.getElem_cons_succ, List.setIfInBounds_toArray, List.set_cons_zero, List.set_cons_succ]
          refine wpAnyH_take (i := 17) (v := ?_) rfl (by kernel_rfl) (by kernel_rfl) (by kernel_rfl) (fun _ _ _ h => h) (Or.inl ⟨by rfl, fun V hV => ?_⟩) (by assumption) ?_
          rotate_left
          · go_simp
            try with_reducible rfl
          try simp only [Act.put, List.getElem_toArray, List.getElem_cons_zero, List.getElem_cons_succ, List.setIfInBounds_toArray, List.set_cons_zero, List.set_cons_succ]
          refine wpAnyH_take (i := 18) (v := ?_) rfl (by kernel_rfl) (by kernel_rfl) (by kernel_rfl) (fun _ _ _ h => h) (Or.inl ⟨by rfl, fun V hV => ?_⟩) (by assumption) ?_
          rotate_left
          · go_simp
            try with_reducible rfl
          try simp only [Act.put, List.getElem_toArray, List.getElem_cons_zero, List.getElem_cons_succ, List.setIfInBounds_toArray, List.set_cons_zero, List.set_cons_succ]
          refine wpAnyH_done (by kernel_rfl) ?_ _
          have HSX := hid hS
          clear hS
          have ⟨t0, t1⟩ := HSX.out.2.1; have ⟨u0, u1⟩ := HSX.out.2.2.1
          have g0 := HSX.out.1.c0; have g1 := HSX.out.1.c1; have g2 := HSX.out.1.c2; have g3 := HSX.out.1.c3; have g4 := HSX.out.1.c4
          go_wp2_with fail
          refine (awake_any _).mono ?_
          rintro e w99 ⟨rfl, hb⟩
          go_wp2_with fail
          go_ret
          exact ⟨rfl, HSX.out.1.below.trans (hb.mono HSX.out.1.below.size)⟩
    · have HDU : Hid (dueH r cc l sm cs place = se) := by show dueH _ _ _ _ _ _ = _; unfold dueH; rw [if_neg (by simp [hf])]; exact HSE.out
      have hse : se = faultL r cc l sm cs := by rw [← HSE.out, sureE, if_neg hf]
      rw [← hse] at hf ⊢
      have hne : se ≠ 0 := hf
      have hned : se ≠ 0 := hf
      have hneb : (se == 0) = false := by simp [hf]
      have hneb2 : (se != 0) = true := by simp [hf]
      clear hse hf
      rw [HDU.out] at HHD
      have eb3 : b3 = se := HBS.out.1
      have eh3 : h3 = se := HHD.out.1
      subst eb3 eh3
      have eb := HBS.out.2.1 hne
      obtain ⟨rfl, rfl⟩ := eb
      have eh := HHD.out.2.1 hned
      obtain ⟨rfl, rfl⟩ := eh
      clear HBS HHD HTT
      have ⟨t0, t1⟩ := HTB10.out
      have ⟨u0, u1⟩ := HTH10.out
      go_wp2_with fail
      refine wp_region_held_drew (S := fun V => SAt w r cc p n c l sm q m d cs V ∧ TwoAt V _ 0 0 ∧ TwoAt V _ 0 0 ∧ IntsAt V pt nt T) (by kernel_rfl) (⟨HS10.out.drewN 1, HTB10.out, HTH10.out, HT10.out⟩) (fun hS => ?_)
      simp only [List.size_toArray, List.length_cons, List.length_nil, Nat.reduceAdd, Array.replicate_succ, Array.replicate_zero, List.push_toArray, List.nil_append, List.cons_append]
      refine wpAnyH_take (i := 0) (v := ?_) rfl (by kernel_rfl) (by kernel_rfl) (by kernel_rfl) (fun _ _ _ h => h) (Or.inl ⟨by rfl, fun V hV => ?_⟩) (by assumption) ?_
      rotate_left
      · go_simp
        try with_reducible rfl
      try simp only [Act.put, List.getElem_toArray, List.getElem_cons_zero, List.setIfInBounds_toArray, List.set_cons_zero, List.set_cons_succ]
      refine wpAnyH_take (i := 1) (v := ?_) rfl (by kernel_rfl) (by kernel_rfl) (by kernel_rfl) (fun _ _ _ h => h) (Or.inl ⟨by rfl, fun V hV => ?_⟩) (by assumption) ?_
      rotate_left
      · go_simp
        try with_reducible rfl
      try simp only [Act.put, List.getElem_toArray, List.getElem_cons_zero, List.getElem_cons_succ, List.setIfInBounds_toArray, List.set_cons_zero, List.set_cons_succ]
      refine wpAnyH_take (i := 2) (v := ?_) rfl (by kernel_rfl) (by kernel_rfl) (by kernel_rfl) (fun _ _ _ h => h) (Or.inl ⟨by rfl, fun V hV => ?_⟩) (by assumption) ?_
      rotate_left
      · go_simp
        try with_reducible rfl
      try simp only [Act.put, List.getElem_toArray, List.getElem_cons_zero, List.getElem_cons_succ, List.setIfInBounds_toArray, List.set_cons_zero, List.set_cons_succ]
      refine wpAnyH_take (i := 3) (v := undef) rfl (by kernel_rfl) (by kernel_rfl) (by kernel_rfl) (fun _ _ _ h => h) (Or.inr ⟨by rfl, rfl⟩) (by assumption) ?_
      try simp only [Act.put, List.getElem_toArray, List.getElem_cons_zero, List.getElem_cons_succ, List.setIfInBounds_toArray, List.set_cons_zero, List.set_cons_succ]
      refine wpAnyH_take (i := 4) (v := undef) rfl (by kernel_rfl) (by kernel_rfl) (by kernel_rfl) (fun _ _ _ h => h) (Or.inr ⟨by rfl, rfl⟩) (by assumption) ?_
      try simp only [Act.put, List.getElem_toArray, List.getElem_cons_zero, List.getElem_cons_succ, List.setIfInBounds_toArray, List.set_cons_zero, List.set_cons_succ]
      refine wpAnyH_take (i := 5) (v := undef) rfl (by kernel_rfl) (by kernel_rfl) (by kernel_rfl) (fun _ _ _ h => h) (Or.inr ⟨by rfl, rfl⟩) (by assumption) ?_
      try simp only [Act.put, List.getElem_toArray, List.getElem_cons_zero, List.getElem_cons_succ, List.setIfInBounds_toArray, List.set_cons_zero, List.set_cons_succ]
      refine wpAnyH_take (i := 6) (v := undef) rfl (by kernel_rfl) (by kernel_rfl) (by kernel_rfl) (fun _ _ _ h => h) (Or.inr ⟨by rfl, rfl⟩) (by assumption) ?_
      try simp only [Act.put, List.getElem_toArray, List.getElem_cons_zero, List.getElem_cons_succ, List.setIfInBounds_toArray, List.set_cons_zero, List.set_cons_succ]
      refine wpAnyH_take (i := 7) (v := undef) rfl (by kernel_rfl) (by kernel_rfl) (by kernel_rfl) (fun _ _ _ h => h) (Or.inr ⟨by rfl, rfl⟩) (by assumption) ?_
      try simp only [Act.put, List.getElem_toArray, List.getElem_cons_zero, List.getElem_cons_succ, List.setIfInBounds_toArray, List.set_cons_zero, List.set_cons_succ]
      refine wpAnyH_take (i := 8) (v := undef) rfl (by kernel_rfl) (by kernel_rfl) (by kernel_rfl) (fun _ _ _ h => h) (Or.inr ⟨by rfl, rfl⟩) (by assumption) ?_
      try simp only [Act.put, List.getElem_toArray, List.getElem_cons_zero, List.getElem_cons_succ, List.setIfInBounds_toArray, List.set_cons_zero, List.set_cons_succ]
      refine wpAnyH_take (i := 9) (v := ?_) rfl (by kernel_rfl) (by kernel_rfl) (by kernel_rfl) (fun _ _ _ h => h) (Or.inl ⟨by rfl, fun V hV => ?_⟩) (by assumption) ?_
      rotate_left
      · go_simp
        try with_reducible rfl
      try simp only [Act.put, List.getElem_toArray, List.getElem_cons_zero, List.getElem_cons_succ, List.setIfInBounds_toArray, List.set_cons_zero, List.set_cons_succ]
      refine wpAnyH_take (i := 10) (v := ?_) rfl (by kernel_rfl) (by kernel_rfl) (by kernel_rfl) (fun _ _ _ h => h) (Or.inl ⟨by rfl, fun V hV => ?_⟩) (by assumption) ?_
      rotate_left
      · go_simp
        try with_reducible rfl
      try simp only [Act.put, List.getElem_toArray, List.getElem_cons_zero, List.getElem_cons_succ, List.setIfInBounds_toArray, List.set_cons_zero, List.set_cons_succ]
      refine wpAnyH_take (i := 11) (v := ?_) rfl (by kernel_rfl) (by kernel_rfl) (by kernel_rfl) (fun _ _ _ h => h) (Or.inl ⟨by rfl, fun V hV => ?_⟩) (by assumption) ?_
      rotate_left
      · go_simp
        try with_reducible rfl
      try simp only [Act.put, List.getElem_toArray, List.getElem_cons_zero, List.getElem_cons_succ, List.setIfInBounds_toArray, List.set_cons_zero, List.set_cons_succ]
      refine wpAnyH_take (i := 12) (v := ?_) rfl (by kernel_rfl) (by kernel_rfl) (by kernel_rfl) (fun _ _ _ h => h) (Or.inl ⟨by rfl, fun V hV => ?_⟩) (by assumption) ?_
      rotate_left
      · go_simp
        try with_reducible rfl
      try simp only [Act.put, List.getElem_toArray, List.getElem_cons_zero, List.getElem_cons_succ, List.setIfInBounds_toArray, List.set_cons_zero, List.set_cons_succ]
      refine wpAnyH_take (i := 13) (v := ?_) rfl (by kernel_rfl) (by kernel_rfl) (by kernel_rfl) (fun _ _ _ h => h) (Or.inl ⟨by rfl, fun V hV => ?_⟩) (by assumption) ?_
      rotate_left
      · go_simp
        try with_reducible rfl
      try simp only [Act.put, List.getElem_toArray, List.getElem_cons_zero, List.getElem_cons_succ, List.setIfInBounds_toArray, List.set_cons_zero, List.set_cons_succ]
      refine wpAnyH_take (i := 14) (v := ?_) rfl (by kernel_rfl) (by kernel_rfl) (by kernel_rfl) (fun _ _ _ h => h) (Or.inl ⟨by rfl, fun V hV => ?_⟩) (by assumption) ?_
      rotate_left
      · have ⟨t0, t1⟩ := hV.2.1; go_simp
        try with_reducible rfl
      try simp only [Act.put, List.getElem_toArray, List.getElem_cons_zero, List.getElem_cons_succ, List.setIfInBounds_toArray, List.set_cons_zero, List.set_cons_succ]
      refine wpAnyH_take (i := 15) (v := ?_) rfl (by kernel_rfl) (by kernel_rfl) (by kernel_rfl) (fun _ _ _ h => h) (Or.inl ⟨by rfl, fun V hV => ?_⟩) (by assumption) ?_
      rotate_left
      · go_simp
        try with_reducible rfl
      try simp only [Act.put, List.getElem_toArray, List.getElem_cons_zero, List.getElem_cons_succ, List.setIfInBounds_toArray, List.set_cons_zero, List.set_cons_succ]
      refine wpAnyH_take (i := 16) (v := ?_) rfl (by kernel_rfl) (by kernel_rfl) (by kernel_rfl) (fun _ _ _ h => h) (Or.inl ⟨by rfl, fun V hV => ?_⟩) (by assumption) ?_
      rotate_left
      · go_simp
        try with_reducible rfl
      try simp only [Act.put, List.getElem_toArray, List.getElem_cons_zero, List.getElem_cons_succ, List.setIfInBounds_toArray, List.set_cons_zero, List.set_cons_succ]
      refine wpAnyH_take (i := 17) (v := ?_) rfl (by kernel_rfl) (by kernel_rfl) (by kernel_rfl) (fun _ _ _ h => h) (Or.inl ⟨by rfl, fun V hV => ?_⟩) (by assumption) ?_
      rotate_left
      · go_simp
        try with_reducible rfl
      try simp only [Act.put, List.getElem_toArray, List.getElem_cons_zero, List.getElem_cons_succ, List.setIfInBounds_toArray, List.set_cons_zero, List.set_cons_succ]
      refine wpAnyH_take (i := 18) (v := ?_) rfl (by kernel_rfl) (by kernel_rfl) (by kernel_rfl) (fun _ _ _ h => h) (Or.inl ⟨by rfl, fun V hV => ?_⟩) (by assumption) ?_
      rotate_left
      · go_simp
        try with_reducible rfl
      try simp only [Act.put, List.getElem_toArray, List.getElem_cons_zero, List.getElem_cons_succ, List.setIfInBounds_toArray, List.set_cons_zero, List.set_cons_succ]
      refine wpAnyH_done (by kernel_rfl) ?_ _
      have HSX := hid hS
      clear hS
      have ⟨t0, t1⟩ := HSX.out.2.1; have ⟨u0, u1⟩ := HSX.out.2.2.1
      have g0 := HSX.out.1.c0; have g1 := HSX.out.1.c1; have g2 := HSX.out.1.c2; have g3 := HSX.out.1.c3; have g4 := HSX.out.1.c4
      go_wp2_with fail
      refine (awake_any _).mono ?_
      rintro e w99 ⟨rfl, hb⟩
      go_wp2_with fail
      go_ret
      exact ⟨rfl, HSX.out.1.below.trans (hb.mono HSX.out.1.below.size)⟩
  · have ht' : (decide (n ≤ 12) && decide (m ≤ 9)) = false := by simpa [thinB] using ht
    clear ht
    go_enter Try.func10, Try.ntmps10
    go_wp2_with fail
    refine (thin_any _ _ _ _ _ _ _ _ _ _).mono ?_
    rintro e w2 ⟨rfl, hb⟩
    have HS2 := hid (HS1.out.step hb)
    clear hb g0 g1 g2 g3 g4
    rw [ht']
    clear ht'
    go_wp2_with fail
    refine (awake_any _).mono ?_
    rintro e w99 ⟨rfl, hb⟩
    go_wp2_with fail
    go_ret
    exact ⟨rfl, HS2.out.below.trans (hb.mono HS2.out.below.size)⟩
end Go.Proofs.Ytlicijnaacdceaa
