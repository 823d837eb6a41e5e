/- The laws: a storm's truths or its error; conversions of a truth. No condition. -/
import Derived.Test.YtfnefkenheglhaaA11
import Derived.Test.YtfnefkenheglhaaA7
import Derived.Test.YtfnefkenheglhaaP7
namespace Go.Proofs.Ytfnefkenheglhaa
open Go.RowKit

set_option maxRecDepth 20000 in
set_option maxHeartbeats 1000000 in
theorem truth53_any (t : Tru) (w : World) : Calls Try.prog 53 #[.agg #[.int .i64 t.a, .int .i64 t.b, .int .i64 t.half, .int .i64 t.peak]] w fun e w' => e = .returned (.agg #[.int .i64 t.a, .int .i64 t.b, .int .i64 t.half, .int .i64 t.peak]) ∧ Below w.heap.size w w' := by
  obtain ⟨W0, hW0⟩ : ∃ V, (w.alloc (.cells #[.int .i64 t.a, .int .i64 t.b, .int .i64 t.half, .int .i64 t.peak] 92)).alloc (.cells #[.int .i64 0, .int .i64 0, .int .i64 0, .int .i64 0] 94) = V := ⟨_, rfl⟩
  have hb : Boxed1 w #[.int .i64 t.a, .int .i64 t.b, .int .i64 t.half, .int .i64 t.peak] 92 W0 := by rw [← hW0]; exact (Boxed1.start _ _ _).alloc _
  have hx : BoxIs (w.heap.size + 1) #[.int .i64 0, .int .i64 0, .int .i64 0, .int .i64 0] W0 := by
    have h := BoxIs.start (w.alloc (.cells #[.int .i64 t.a, .int .i64 t.b, .int .i64 t.half, .int .i64 t.peak] 92)) #[.int .i64 0, .int .i64 0, .int .i64 0, .int .i64 0] 94
    rw [World.size_alloc, hW0] at h; exact h
  have e0 := (TruAt.of hb.cell).c0; have e1 := (TruAt.of hb.cell).c1; have e2 := (TruAt.of hb.cell).c2; have e3 := (TruAt.of hb.cell).c3
  have x0 := (hx.2 0 (.int .i64 0) rfl).1; have f0 := (hx.2 0 (.int .i64 0) rfl).2; have x1 := (hx.2 1 (.int .i64 0) rfl).1; have f1 := (hx.2 1 (.int .i64 0) rfl).2; have x2 := (hx.2 2 (.int .i64 0) rfl).1; have f2 := (hx.2 2 (.int .i64 0) rfl).2; have x3 := (hx.2 3 (.int .i64 0) rfl).1; have f3 := (hx.2 3 (.int .i64 0) rfl).2
  have HB := hid hb.below
  have HR := hid ((((hx.put (j := 0) (.int .i64 t.a)).put (j := 1) (.int .i64 t.b)).put (j := 2) (.int .i64 t.half)).put (j := 3) (.int .i64 t.peak))
  clear hb hx
  go_enter Try.func53, Try.ntmps53
  go_wp2_with fail
  have y0 := (HR.out.2 0 (.int .i64 t.a) rfl).1; have y1 := (HR.out.2 1 (.int .i64 t.b) rfl).1; have y2 := (HR.out.2 2 (.int .i64 t.half) rfl).1; have y3 := (HR.out.2 3 (.int .i64 t.peak) rfl).1
  refine bodyPost_ret (v := .agg #[.int .i64 t.a, .int .i64 t.b, .int .i64 t.half, .int .i64 t.peak]) (by simp [results, Try.f53, go_sem, y0, y1, y2, y3]) rfl ?_
  exact ⟨rfl, ((((HB.out.setCell (p := ⟨w.heap.size + 1, 0, none⟩) (by show w.heap.size ≤ w.heap.size + 1; omega) _).setCell (p := ⟨w.heap.size + 1, 1, none⟩) (by show w.heap.size ≤ w.heap.size + 1; omega) _).setCell (p := ⟨w.heap.size + 1, 2, none⟩) (by show w.heap.size ≤ w.heap.size + 1; omega) _).setCell (p := ⟨w.heap.size + 1, 3, none⟩) (by show w.heap.size ≤ w.heap.size + 1; omega) _)⟩

set_option maxRecDepth 20000 in
set_option maxHeartbeats 1000000 in
theorem back67_any (t : Tru) (w : World) : Calls Try.prog 67 #[.agg #[.int .i64 t.a, .int .i64 t.b, .int .i64 t.half, .int .i64 t.peak]] w fun e w' => e = .returned (.agg #[.int .i64 t.a, .int .i64 t.b, .int .i64 t.half, .int .i64 t.peak]) ∧ Below w.heap.size w w' := by
  obtain ⟨W0, hW0⟩ : ∃ V, (w.alloc (.cells #[.int .i64 t.a, .int .i64 t.b, .int .i64 t.half, .int .i64 t.peak] 94)).alloc (.cells #[.int .i64 0, .int .i64 0, .int .i64 0, .int .i64 0] 92) = V := ⟨_, rfl⟩
  have hb : Boxed1 w #[.int .i64 t.a, .int .i64 t.b, .int .i64 t.half, .int .i64 t.peak] 94 W0 := by rw [← hW0]; exact (Boxed1.start _ _ _).alloc _
  have hx : BoxIs (w.heap.size + 1) #[.int .i64 0, .int .i64 0, .int .i64 0, .int .i64 0] W0 := by
    have h := BoxIs.start (w.alloc (.cells #[.int .i64 t.a, .int .i64 t.b, .int .i64 t.half, .int .i64 t.peak] 94)) #[.int .i64 0, .int .i64 0, .int .i64 0, .int .i64 0] 92
    rw [World.size_alloc, hW0] at h; exact h
  have e0 := (TruAt.of hb.cell).c0; have e1 := (TruAt.of hb.cell).c1; have e2 := (TruAt.of hb.cell).c2; have e3 := (TruAt.of hb.cell).c3
  have x0 := (hx.2 0 (.int .i64 0) rfl).1; have f0 := (hx.2 0 (.int .i64 0) rfl).2; have x1 := (hx.2 1 (.int .i64 0) rfl).1; have f1 := (hx.2 1 (.int .i64 0) rfl).2; have x2 := (hx.2 2 (.int .i64 0) rfl).1; have f2 := (hx.2 2 (.int .i64 0) rfl).2; have x3 := (hx.2 3 (.int .i64 0) rfl).1; have f3 := (hx.2 3 (.int .i64 0) rfl).2
  have HB := hid hb.below
  have HR := hid ((((hx.put (j := 0) (.int .i64 t.a)).put (j := 1) (.int .i64 t.b)).put (j := 2) (.int .i64 t.half)).put (j := 3) (.int .i64 t.peak))
  clear hb hx
  go_enter Try.func67, Try.ntmps67
  go_wp2_with fail
  have y0 := (HR.out.2 0 (.int .i64 t.a) rfl).1; have y1 := (HR.out.2 1 (.int .i64 t.b) rfl).1; have y2 := (HR.out.2 2 (.int .i64 t.half) rfl).1; have y3 := (HR.out.2 3 (.int .i64 t.peak) rfl).1
  refine bodyPost_ret (v := .agg #[.int .i64 t.a, .int .i64 t.b, .int .i64 t.half, .int .i64 t.peak]) (by simp [results, Try.f67, go_sem, y0, y1, y2, y3]) rfl ?_
  exact ⟨rfl, ((((HB.out.setCell (p := ⟨w.heap.size + 1, 0, none⟩) (by show w.heap.size ≤ w.heap.size + 1; omega) _).setCell (p := ⟨w.heap.size + 1, 1, none⟩) (by show w.heap.size ≤ w.heap.size + 1; omega) _).setCell (p := ⟨w.heap.size + 1, 2, none⟩) (by show w.heap.size ≤ w.heap.size + 1; omega) _).setCell (p := ⟨w.heap.size + 1, 3, none⟩) (by show w.heap.size ≤ w.heap.size + 1; omega) _)⟩

/-- The reference's truths of a storm, if it has no error. -/
def sureR (s : Sto) : List Tru := if sureE s true = 0 then truR s else []
def SurePost (s : Sto) (w : World) : Ending → World → Prop := fun e w' => ∃ v, e = .returned (.tuple #[v, .int .i64 (sureE s true)]) ∧ OwnRows cellsT 4 92 w' w.heap.size v (sureR s) ∧ Below w.heap.size w w'
theorem truR_nil {s : Sto} (ok : OkS s) : truR s = [] ↔ truthL s = [] := by
  have h := (truR_perm ok.pos).length_eq
  rw [← List.length_eq_zero_iff, ← List.length_eq_zero_iff, h]
theorem truR_len {s : Sto} (ok : OkS s) : (truR s).length ≤ 2000 := by
  rw [(truR_perm ok.pos).length_eq]; exact truth_len ok

set_option maxRecDepth 40000 in
set_option maxHeartbeats 16000000 in
theorem sure_any (s : Sto) (p : Option Addr) (n c : Nat) (w : World) (hcs : CrdsAt w p n s.cards) :
    Calls Try.prog 22 #[.agg #[.int .i64 s.wide, .int .i64 s.high, .int .i64 s.fall, .int .i64 s.a.lo, .int .i64 s.a.hi, .int .i64 s.b.lo, .int .i64 s.b.hi, .int .i64 s.half.lo, .int .i64 s.half.hi, .int .i64 s.peak.lo, .int .i64 s.peak.hi, .slice p n c]] w (SurePost s w) := by
  have HC := hid hcs
  have HFL := hid (fun W (hb : Below w.heap.size w W) => faultL_any s p n c W (hcs.below hb))
  clear hcs
  have H0 : Hid (Boxed1 w #[.int .i64 s.wide, .int .i64 s.high, .int .i64 s.fall, .int .i64 s.a.lo, .int .i64 s.a.hi, .int .i64 s.b.lo, .int .i64 s.b.hi, .int .i64 s.half.lo, .int .i64 s.half.hi, .int .i64 s.peak.lo, .int .i64 s.peak.hi, .slice p n c] 26 (w.alloc (.cells #[.int .i64 s.wide, .int .i64 s.high, .int .i64 s.fall, .int .i64 s.a.lo, .int .i64 s.a.hi, .int .i64 s.b.lo, .int .i64 s.b.hi, .int .i64 s.half.lo, .int .i64 s.half.hi, .int .i64 s.peak.lo, .int .i64 s.peak.hi, .slice p n c] 26))) := Boxed1.start _ _ _
  go_enter Try.func22, Try.ntmps22
  go_wp2_with fail
  (with_reducible refine (HFL.out _ ?_).mono ?_)
  · exact H0.out.below
  rintro e w1 ⟨rfl, hb⟩
  have H1 := hid (H0.out.step hb)
  clear hb
  by_cases hF : faultS s = 0
  · have HOK := hid (fault_iff.1 hF)
    have HN := hid (truR_nil HOK.out)
    have HLE := hid (truR_len HOK.out)
    have HE : Hid (sureE s true = if truthL s = [] then 11 else 0) := by show _ = _; rw [sureE, if_pos hF, if_pos rfl]
    rw [hF]
    clear hF
    have e0 := (StoAt.of H1.out.cell).c0; have e1 := (StoAt.of H1.out.cell).c1; have e2 := (StoAt.of H1.out.cell).c2; have e3 := (StoAt.of H1.out.cell).c3; have e4 := (StoAt.of H1.out.cell).c4; have e5 := (StoAt.of H1.out.cell).c5; have e6 := (StoAt.of H1.out.cell).c6; have e7 := (StoAt.of H1.out.cell).c7; have e8 := (StoAt.of H1.out.cell).c8; have e9 := (StoAt.of H1.out.cell).c9; have e10 := (StoAt.of H1.out.cell).c10; have e11 := (StoAt.of H1.out.cell).c11
    go_wp2_with fail
    refine (truths_any s p n c w1 (HC.out.below H1.out.below) HOK.out).mono ?_
    rintro e w2 ⟨v, rfl, hown, hb⟩
    have H2 := hid (H1.out.step hb)
    have HOW := hid (hown.mono (base' := w.heap.size) (by have := H1.out.size; omega))
    obtain ⟨qa, da, rfl, _⟩ := hown.slice cellsT_len
    clear e0 e1 e2 e3 e4 e5 e6 e7 e8 e9 e10 e11 hb hown
    by_cases hL : truthL s = []
    · have HE2 : Hid (sureE s true = 11) := by show _ = _; rw [HE.out, if_pos hL]
      have hn := HN.out.2 hL
      rw [hn]
      have HSR : Hid (sureR s = []) := by show _ = _; rw [sureR, HE2.out, if_neg (by decide)]
      clear hL hn
      go_wp2_with fail
      go_ret2
      exact ⟨_, by rw [HE2.out]; rfl, by rw [HSR.out]; exact ownRows_nil _ _ _ _ _, H2.out.below⟩
    · have HE2 : Hid (sureE s true = 0) := by show _ = _; rw [HE.out, if_neg hL]
      have hn : (truR s).length ≠ 0 := fun h => hL (HN.out.1 (List.length_eq_zero_iff.1 h))
      have HSR : Hid (sureR s = truR s) := by show _ = _; rw [sureR, if_pos HE2.out]
      obtain ⟨N, hNN⟩ : ∃ N, (truR s).length = N := ⟨_, rfl⟩
      rw [hNN] at hn HOW ⊢
      have hn2 : ¬ (N : Int) = 0 := by omega
      clear hL hNN
      go_wp2_with fail
      go_ret2
      exact ⟨_, by rw [HE2.out]; rfl, by rw [HSR.out]; exact HOW.out, H2.out.below⟩
  · have HE2 : Hid (sureE s true = faultS s) := by show _ = _; rw [sureE, if_neg hF]
    have HSR : Hid (sureR s = []) := by show _ = _; rw [sureR, HE2.out, if_neg hF]
    obtain ⟨F, hFF⟩ : ∃ F, faultS s = F := ⟨_, rfl⟩
    rw [hFF] at hF HE2 ⊢
    have hF1 : (F == 0) = false := by simpa using hF
    have hF2 : (F != 0) = true := by simpa using hF
    clear hFF
    go_wp2_with fail
    go_ret2
    exact ⟨_, by rw [HE2.out]; rfl, by rw [HSR.out]; exact ownRows_nil _ _ _ _ _, H1.out.below⟩
end Go.Proofs.Ytfnefkenheglhaa
