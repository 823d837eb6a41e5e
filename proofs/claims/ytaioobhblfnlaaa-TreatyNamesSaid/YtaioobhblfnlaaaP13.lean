/- Package treaty: the first wrong report. No condition but reports that lie in memory. -/
import Derived.Test.YtaioobhblfnlaaaP12
namespace Go.Proofs.Ytaioobhblfnlaaa
open Go.RowKit

theorem slice35 (ad : Addr) (n c k : Nat) (hk : k ≤ c) (V : World) : (Instr.sliceAt 35 (.slice (some ad) n c) none (some (.int .i64 (k : Int))) none).run Try.prog V = .ok (.slice (some ad) k c) V := by
  have hu : Try.prog.underlying 35 = some (.slice (Try.prog.elem 35)) := by kernel_rfl
  have he : (sizeOf (Try.prog.elem 35)).run Try.prog V = .ok 3 V := by kernel_rfl
  rw [run_sliceAt_slice V 35 _ _ _ _ hu, run_slice_h (P := Try.prog) V 35 (some ad) n c hu .i64 (k : Int) (by omega) (by omega), he]
  simp only [Result.andThen, sliced, Int.toNat_natCast, Nat.zero_mul, Nat.sub_zero, Option.map_some]
  have e : ad.add 0 = ad := by unfold Addr.add; split <;> simp_all
  rw [e]; split <;> rfl
theorem RowsAt.take {α : Type} {enc : α → List Value} {z : Nat} {w : World} {p : Option Addr} {n : Nat} {l : List α} (h : RowsAt enc z w p n l) {k : Nat} (hk : k ≤ n) : RowsAt enc z w p k (l.take k) := by
  refine ⟨by rw [List.length_take, ← h.1]; omega, fun i c hi => ?_⟩
  rw [List.getElem?_take] at hi
  split at hi
  · exact h.2 i c hi
  · cases hi
theorem NotM.take {bm : Nat} {lp : Option Addr} {ln : Nat} {tp : Option Addr} {tn : Nat} {rp : Option Addr} {rn k : Nat} (h : NotM bm lp ln tp tn rp rn) (hk : k ≤ rn) : NotM bm lp ln tp tn rp k :=
  ⟨h.l, h.t, fun ⟨a, ha, h0, e⟩ => h.r ⟨a, ha, by omega, e⟩⟩
def takeR (p : Prg) (k : Nat) : Prg := { p with reps := p.reps.take k }
noncomputable def firstV (p : Prg) : Int := if faultP p = 0 then (if firstP p = -1 then 0 else firstP p) else 0
noncomputable def firstE (p : Prg) : Int := if faultP p = 0 then (if firstP p = -1 then 7 else 0) else faultP p
def TwoPost (a b : Int) (w : World) : Ending → World → Prop := fun e w' => e = .returned (.tuple #[.int .i64 a, .int .i64 b]) ∧ Below w.heap.size w w'
theorem ret_2ii {a b x y : Int} (h : a = b) (k : x = y) : Ending.returned (.tuple #[.int .i64 a, .int .i64 x]) = .returned (.tuple #[.int .i64 b, .int .i64 y]) := by rw [h, k]
def RdP (lp : Option Addr) (ln : Nat) (tp : Option Addr) (tn : Nat) (rp : Option Addr) (rn : Nat) (k : Nat) : Prop := InS lp ln k ∨ InS tp tn k ∨ InS rp rn k
theorem PrgAt.rd9 {W : World} {p : Prg} {lp : Option Addr} {ln : Nat} {tp : Option Addr} {tn : Nat} {rp : Option Addr} {rn : Nat} (h : PrgAt W p lp ln tp tn rp rn) {k : Nat} (hk : RdP lp ln tp tn rp rn k) : k < W.heap.size := by
  rcases hk with hk | hk | hk
  · exact rows_lt h.l hk
  · exact rows_lt h.t hk
  · exact rows_lt h.r hk
theorem PrgAt.kept9 {S : Nat → Prop} {W W' : World} {p : Prg} {lp : Option Addr} {ln : Nat} {tp : Option Addr} {tn : Nat} {rp : Option Addr} {rn : Nat} (h : PrgAt W p lp ln tp tn rp rn) (hn : Near S W W') (hS : ∀ k, RdP lp ln tp tn rp rn k → ¬ S k) : PrgAt W' p lp ln tp tn rp rn :=
  ⟨h.l.kept hn.size fun a ha h0 hlt => hn.block _ hlt (hS _ (.inl ⟨a, ha, h0, rfl⟩)), h.t.kept hn.size fun a ha h0 hlt => hn.block _ hlt (hS _ (.inr (.inl ⟨a, ha, h0, rfl⟩))), h.r.kept hn.size fun a ha h0 hlt => hn.block _ hlt (hS _ (.inr (.inr ⟨a, ha, h0, rfl⟩)))⟩

set_option maxRecDepth 100000 in
set_option maxHeartbeats 8000000 in
theorem first_any (p : Prg) (lp : Option Addr) (ln lc : Nat) (tp : Option Addr) (tn tc : Nat) (rp : Option Addr) (rn rc : Nat) (w : World) (hp : PrgAt w p lp ln tp tn rp rn) (hrc : rn ≤ rc) : Calls Try.prog 43 #[.agg #[.slice lp ln lc, .int .i64 p.reserve, .slice tp tn tc, .slice rp rn rc]] w (TwoPost (firstV p) (firstE p) w) := by
  have HC := hid (fun W (hW : Below w.heap.size w W) => check_any p lp ln lc tp tn tc rp rn rc W (hp.below hW))
  have HP := hid hp
  have HRN := hid hp.r.1
  clear hp
  have H0 : Hid (Boxed1 w #[.slice lp ln lc, .int .i64 p.reserve, .slice tp tn tc, .slice rp rn rc] 37 (w.alloc (.cells #[.slice lp ln lc, .int .i64 p.reserve, .slice tp tn tc, .slice rp rn rc] 37))) := hid (Boxed1.start _ _ _)
  go_enter Try.func43, Try.ntmps43
  go_wp2_with fail
  (with_reducible refine (HC.out _ H0.out.below).mono ?_)
  rintro e w1 ⟨rfl, hb⟩
  have H1 := hid (H0.out.step (hb.mono (by simp)))
  clear hb H0
  by_cases h0 : faultP p = 0
  · have HOK := hid (fault_iff.1 h0)
    have HFV : Hid (firstV p = if firstP p = -1 then 0 else firstP p) := hid (by rw [firstV, if_pos h0])
    have HFE : Hid (firstE p = if firstP p = -1 then 7 else 0) := hid (by rw [firstE, if_pos h0])
    rw [h0]
    clear h0
    have e0 := H1.out.cell 0 (v := .slice lp ln lc) rfl; have e1 := H1.out.cell 1 (v := .int .i64 p.reserve) rfl; have e2 := H1.out.cell 2 (v := .slice tp tn tc) rfl; have e3 := H1.out.cell 3 (v := .slice rp rn rc) rfl
    go_wp2_with fail
    (with_reducible refine (work_any p lp ln lc tp tn tc rp rn rc _).mono ?_)
    rintro e w2 ⟨rfl, hbx, hmv, hb⟩
    have HPW := hid (HP.out.below H1.out.below)
    have HM := hid (notM_of HPW.out (Nat.le_succ w1.heap.size))
    have HBX : Hid (BoxIs (w1.heap.size + 2) (workC p lp ln lc tp tn tc rp rn rc allT (w1.heap.size + 1)) w2) := hid hbx
    have HKN : Hid (∃ M, MapV w2 163 (w1.heap.size + 1) 0 M ∧ Knows p.ts allT M) := hid ⟨_, hmv, knows_none _ _⟩
    have H2 := hid (H1.out.step hb)
    have HP2 := hid (HPW.out.below hb)
    have HS1 := hid H1.out.size
    have HS2 := hid hbx.1
    have hr5 : rn ≤ 5 := by rw [HRN.out]; exact HOK.out.k5
    clear hbx hmv hb e0 e1 e2 e3
    have HNO : Hid (¬ InS none 0 (w1.heap.size + 1)) := hid (by rintro ⟨a, h, _⟩; cases h)
    have e3 := H2.out.cell 3 (v := .slice rp rn rc) rfl
    go_wp2_with fail
    clear e3
    go_loopw [17] (fun i wr => ∃ k j : Nat, k ≤ rn ∧ i = .int .i64 k ∧ firstG (fun j => possO (takeR p (j + 1)) allT []) k (rn - k) = firstP p ∧ BoxIs (w1.heap.size + 2) (workC p lp ln lc tp tn tc rp j rc allT (w1.heap.size + 1)) wr ∧ (∃ M, MapV wr 163 (w1.heap.size + 1) (6000 * k) M ∧ Knows p.ts allT M) ∧ Boxed1 w #[.slice lp ln lc, .int .i64 p.reserve, .slice tp tn tc, .slice rp rn rc] 37 wr ∧ PrgAt wr p lp ln tp tn rp rn ∧ w1.heap.size + 2 < wr.heap.size) (fun i _ => rn - (intOf i).toNat)
    case atStart => exact ⟨0, rn, by omega, rfl, by rw [firstP, HRN.out]; rfl, HBX.out, HKN.out, H2.out, HP2.out, HS2.out⟩
    case round =>
      clear HBX HKN H2 HP2
      obtain ⟨k, j, hk, rfl, hf, hbx, hkn, h3, hp3, hz3⟩ := hrel
      have HF := hid hf; have HBX := hid hbx; have HKN := hid hkn; have H3 := hid h3; have HP3 := hid hp3; have HZ3 := hid hz3
      clear hf hbx hkn h3 hp3 hz3
      by_cases hlt : k < rn
      · obtain ⟨y, hy, b5, o5, rfl, hb5, _, _, _⟩ := HP3.out.r.rep hlt
        clear hy hb5
        have e3 := H3.out.cell 3 (v := .slice (some ⟨b5, o5, none⟩) rn rc) rfl
        have hsl := fun V => slice35 ⟨b5, o5, none⟩ rn rc (k + 1) (by omega) V
        skip
        rw [show (((k + 1 : Nat)) : Int) = (k : Int) + 1 by push_cast; rfl] at hsl
        have c3 := (HBX.out.2 3 (.slice (some ⟨b5, o5, none⟩) j rc) rfl).1; have f3 := (HBX.out.2 3 (.slice (some ⟨b5, o5, none⟩) j rc) rfl).2
        obtain ⟨wa, hwa⟩ : ∃ V, wr.setCell ⟨(w1.heap.size + 2), 3, none⟩ (.slice (some ⟨b5, o5, none⟩) (k + 1) rc) = V := ⟨_, rfl⟩
        have hna : Near (fun i => i = (w1.heap.size + 2)) wr wa := by rw [← hwa]; exact near_one (S := fun i => i = (w1.heap.size + 2)) rfl _
        have HBXa : Hid (BoxIs (w1.heap.size + 2) (workC p lp ln lc tp tn tc (some ⟨b5, o5, none⟩) (k + 1) rc allT (w1.heap.size + 1)) wa) := hid (by rw [← hwa]; exact HBX.out.put (j := 3) (.slice (some ⟨b5, o5, none⟩) (k + 1) rc))
        have H3a := hid (H3.out.step' (hna.below (B := w.heap.size + 1) H3.out.size (fun i h1 h2 => by have := HS1.out; omega)))
        have HP3a := hid (HP3.out.kept9 hna (fun i hi => by have h9 := HPW.out.rd9 hi; omega))
        have HKNa : Hid (∃ M, MapV wa 163 (w1.heap.size + 1) (6000 * k) M ∧ Knows p.ts allT M) := hid (by obtain ⟨M, h1, h2⟩ := HKN.out; exact ⟨M, h1.kept (hna.block _ h1.lt (by omega)), h2⟩)
        have HZa := hid hna.size
        have HPT : Hid (PrgAt wa (takeR p (k + 1)) lp ln tp tn (some ⟨b5, o5, none⟩) (k + 1)) := hid ⟨HP3a.out.l, HP3a.out.t, HP3a.out.r.take (by omega)⟩
        have HW : Hid (WkS wa (takeR p (k + 1)) lp ln lc tp tn tc (some ⟨b5, o5, none⟩) (k + 1) rc allT (w1.heap.size + 2) (w1.heap.size + 1) (6000 * k)) := hid ⟨HBXa.out, HPT.out, HKNa.out⟩
        have HMT := hid (HM.out.take (k := k + 1) (by omega))
        have HOKT : Hid (OkP (takeR p (k + 1))) := hid (HOK.out.fewer (k + 1))
        clear hna HBX H3 HP3 HKN
        go_wp2_with fail
        clear e3 c3 f3 hwa hsl
        (with_reducible refine (possible_any (takeR p (k + 1)) lp ln lc tp tn tc (some ⟨b5, o5, none⟩) (k + 1) rc allT (w1.heap.size + 2) (w1.heap.size + 1) (6000 * k) none 0 0 [] wa HOKT.out HW.out HMT.out (ints_nil _) HNO.out (by unfold maxLen; omega) (by omega)).mono ?_)
        rintro e w4 ⟨rfl, hwk, hn⟩
        have H4 := hid (H3a.out.step' (hn.below (B := w.heap.size + 1) H3a.out.size (fun i h1 h2 => by have := HS1.out; omega)))
        have HB4 : Hid (BoxIs (w1.heap.size + 2) (workC p lp ln lc tp tn tc (some ⟨b5, o5, none⟩) (k + 1) rc allT (w1.heap.size + 1)) w4) := hid hwk.box
        have HK4 : Hid (∃ M, MapV w4 163 (w1.heap.size + 1) (6000 * (k + 1)) M ∧ Knows p.ts allT M) := hid (by obtain ⟨M, h1, h2⟩ := hwk.kn; exact ⟨M, h1.more (by omega), h2⟩)
        have HP4 := hid (HP3a.out.kept9 hn (fun i hi => by have h9 := HPW.out.rd9 hi; omega))
        have HZ4 : Hid (w1.heap.size + 2 < w4.heap.size) := hid (Nat.lt_of_lt_of_le HZ3.out (Nat.le_trans HZa.out hn.size))
        clear hwk hn HW HBXa H3a HP3a HKNa HPT
        have HGO := hid (firstG_go (fun j => possO (takeR p (j + 1)) allT []) k rn hlt)
        cases hps : possO (takeR p (k + 1)) allT []
        · have HFK : Hid (firstP p = (k : Int)) := hid (by rw [← HF.out, HGO.out]; simp only [hps]; rfl)
          have HV : Hid (firstV p = (k : Int)) := hid (by rw [HFV.out, HFK.out, if_neg (by omega)])
          have HE : Hid (firstE p = 0) := hid (by rw [HFE.out, HFK.out, if_neg (by omega)])
          clear hps
          go_wp2_with fail
          go_ret2
          exact ⟨ret_2ii HV.out.symm HE.out.symm, H4.out.below⟩
        · have HFN : Hid (firstG (fun j => possO (takeR p (j + 1)) allT []) (k + 1) (rn - (k + 1)) = firstP p) := hid (by rw [← HF.out, HGO.out]; simp only [hps]; rfl)
          clear hps
          go_wp2_with fail
          go_roundw
          case rel => exact ⟨k + 1, k + 1, by omega, by go_num, HFN.out, HB4.out, HK4.out, H4.out, HP4.out, HZ4.out⟩
          case measure => simp [intOf]; omega
      · have hkn : k = rn := by omega
        subst hkn
        have HFK : Hid (firstP p = -1) := hid (by rw [← HF.out, Nat.sub_self]; rfl)
        have HV : Hid (firstV p = 0) := hid (by rw [HFV.out, if_pos HFK.out])
        have HE : Hid (firstE p = 7) := hid (by rw [HFE.out, if_pos HFK.out])
        go_wp2_with fail
        go_ret2
        exact ⟨ret_2ii HV.out.symm HE.out.symm, H3.out.below⟩
  · have hE : (faultP p != 0) = true := by simpa using h0
    have HV : Hid (firstV p = 0) := hid (by rw [firstV, if_neg h0])
    have HE : Hid (firstE p = faultP p) := hid (by rw [firstE, if_neg h0])
    clear h0
    go_wp2_with fail
    go_ret2
    exact ⟨ret_2ii HV.out.symm HE.out.symm, H1.out.below⟩
end Go.Proofs.Ytaioobhblfnlaaa
