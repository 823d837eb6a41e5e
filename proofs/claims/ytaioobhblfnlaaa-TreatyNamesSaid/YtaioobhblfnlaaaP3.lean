/- Package treaty: what happens at all losses, with what is known. No condition but a valid programme and small numbers. -/
import Derived.Test.YtaioobhblfnlaaaP2
namespace Go.Proofs.Ytaioobhblfnlaaa
open Go.RowKit

def TotPost (ts : List Tre) (th : Nat → Bool) (l : List Int) (bm nn : Nat) (w : World) : Ending → World → Prop := fun e w' =>
  e = .returned (.agg (resC (paysS ts th l).1 (paysS ts th l).2)) ∧ ∃ M', MapV w' 163 bm nn M' ∧ Knows ts th M' ∧ Near (fun k => k = bm) w w'
theorem PdOk.mono {ts : List Tre} {f : Nat → Int} {a b : Int} (h : PdOk ts f a) (hb : a ≤ b) : PdOk ts f b := ⟨h.lo, fun i => Int.le_trans (h.hi i) hb, h.cap⟩

set_option maxRecDepth 100000 in
set_option maxHeartbeats 16000000 in
theorem total_any (p : Prg) (lp : Option Addr) (ln lc : Nat) (tp : Option Addr) (tn tc : Nat) (rp : Option Addr) (rn rc : Nat) (th : Nat → Bool) (q : Option Addr) (m c : Nat) (l : List Int) (bw bm nn : Nat) (M : Value → Option Value) (w : World) (hp : RowsAt cellsT 7 w tp tn p.ts) (hwk : BoxIs bw (workC p lp ln lc tp tn tc rp rn rc th bm) w) (hm : MapV w 163 bm nn M) (hk : Knows p.ts th M) (hnn : nn + m < maxLen) (hts : OkTs p.ts) (hlen : p.ts.length ≤ 5)
    (hl : IntsAt w q m l) (hlb : ∀ x ∈ l, 0 ≤ x ∧ x ≤ 1000) (hm40 : m ≤ 40) (hqm : ∀ a, q = some a → 0 < m → a.block ≠ bm) (htpm : ∀ a, tp = some a → 0 < tn → a.block ≠ bm) :
    Calls Try.prog 66 #[.pointer (some ⟨bw, 0, none⟩), .slice q m c] w (TotPost p.ts th l bm (nn + m) w) := by
  have HWK := hid hwk; have HP := hid hp; have HL := hid hl; have HTS := hid hts; have HLB := hid hlb
  have HMN := hid hl.1
  have HLEN := hid hlen
  have hbl := hwk.1; have hml := hm.lt
  have HBM : Hid (bw ≠ bm) := hid (hm.ne (hwk.2 9 (.map (some bm)) rfl).1)
  have HQM := hid hqm
  have HTPM := hid htpm
  obtain ⟨W1, hW1⟩ : ∃ V, w.alloc (.cells #[.int .i64 0, .int .i64 0, .int .i64 0, .int .i64 0, .int .i64 0, .int .i64 0] 118) = V := ⟨_, rfl⟩
  have hb1 : Below w.heap.size w W1 := by rw [← hW1]; exact (Below.refl _ _).alloc (Nat.le_refl _) _
  have HX1 : Hid (BoxIs w.heap.size (resC zeroF 0) W1) := by show BoxIs _ _ _; rw [← hW1]; exact BoxIs.start _ _ _
  have HM1 : Hid (∃ M', MapV W1 163 bm (nn + 0) M' ∧ Knows p.ts th M') := hid ⟨M, hm.below hb1, hk⟩
  have HN1 : Hid (Near (fun k => k = bm) w W1) := hid (near_below hb1)
  have HNN := hid hnn
  have HPZ := hid (pd_zero hts)
  clear hwk hp hl hts hlb hm hk hlen hb1 hnn hqm htpm
  go_enter Try.func66, Try.ntmps66
  go_wp2_with fail
  clear hW1
  go_loopw [10] (fun i wr => ∃ (k : Nat) (F : Nat → Int) (kp : Int), k ≤ m ∧ i = .int .i64 k ∧ totS p.ts th (l.drop k) (F, kp) = totS p.ts th l (zeroF, 0) ∧ PdOk p.ts F (1000 * k) ∧ (0 ≤ kp ∧ kp ≤ 1000 * k) ∧ BoxIs w.heap.size (resC F kp) wr ∧ (∃ M', MapV wr 163 bm (nn + k) M' ∧ Knows p.ts th M') ∧ Near (fun k => k = bm) w wr) (fun i _ => m - (intOf i).toNat)
  case atStart => exact ⟨0, zeroF, 0, by omega, rfl, rfl, by simpa using HPZ.out, by omega, HX1.out, HM1.out, HN1.out⟩
  case round =>
    clear HX1 HM1 HN1 HPZ
    obtain ⟨k, F, kp, hk, rfl, hr, hpd, hkp, hx, ⟨M', hm, hkn⟩, hn⟩ := hrel
    have HR := hid hr; have HPD := hid hpd; have HX := hid hx; have HM := hid hm; have HKN := hid hkn; have HN := hid hn
    clear hr hpd hx hm hkn hn
    by_cases hlt : k < m
    · obtain ⟨b1, o1, rfl, hb1, hc⟩ := HL.out.at hlt
      have hc0 : wr.cell? ⟨b1, o1 + k, none⟩ = some (.int .i64 (l[k]?.getD 0)) := (HN.out.cell (p := ⟨b1, o1 + k, none⟩) hb1 (HQM.out ⟨b1, o1, none⟩ rfl (by omega))).trans hc
      have HD := hid (drop_at l k (by have := HMN.out; omega))
      have hlb := HLB.out _ (getD_mem (show k < l.length by have := HMN.out; omega))
      obtain ⟨L, hL⟩ : ∃ z, l[k]?.getD 0 = z := ⟨_, rfl⟩
      rw [hL] at hc0 HD hlb
      clear hL hc
      have HGO : Hid (totS p.ts th (l.drop (k + 1)) (oneP p.ts th L F, kp + keptO p.ts th F L) = totS p.ts th l (zeroF, 0)) := by show _ = _; rw [← HR.out, HD.out]; rfl
      have HNO := hid (now_ok HTS.out th HPD.out hlb.1 hlb.2)
      have HWr := hid (HWK.out.far HN.out HBM.out)
      have HPr : Hid (RowsAt cellsT 7 wr tp tn p.ts) := hid (HP.out.kept HN.out.size (fun a ha h0 hlt => HN.out.block _ hlt (HTPM.out a ha h0)))
      have HX0 := HX
      have k0 := (HX0.out.2 0 (.int .i64 (F 0)) rfl).1; have k1 := (HX0.out.2 1 (.int .i64 (F 1)) rfl).1; have k2 := (HX0.out.2 2 (.int .i64 (F 2)) rfl).1; have k3 := (HX0.out.2 3 (.int .i64 (F 3)) rfl).1; have k4 := (HX0.out.2 4 (.int .i64 (F 4)) rfl).1; have k5 := (HX0.out.2 5 (.int .i64 kp) rfl).1
      go_wp2_with fail
      (with_reducible refine (one_any p lp ln lc tp tn tc rp rn rc th L F bw bm (nn + k) M' _ HPr.out HWr.out HM.out HKN.out (by have := HNN.out; omega) HTS.out HLEN.out hlb (HPD.out.mono (by omega))).mono ?_)
      rintro e w1 ⟨rfl, M2, hm2, hk2, hn2⟩
      have HM2 := hid hm2; have HK2 := hid hk2; have HN2 := hid (HN.out.trans hn2); have HX2 := hid (HX.out.far hn2 (by omega)); have HW1S : Hid (wr.heap.size ≤ w1.heap.size) := hid hn2.size
      clear hm2 hk2 hn2 hc0 k0 k1 k2 k3 k4 k5
      obtain ⟨G, hG⟩ : ∃ g, oneP p.ts th L F = g := ⟨_, rfl⟩
      obtain ⟨ko, hko⟩ : ∃ g, keptO p.ts th F L = g := ⟨_, rfl⟩
      have HNG : Hid (PdOk p.ts G (1000 * k + 1000)) := hid (by have h := HNO.out.1; rw [← hG]; exact h)
      have hkb : 0 ≤ ko ∧ ko ≤ L := by rw [← hko]; exact HNO.out.2
      rw [hG, hko] at HGO
      rw [hG, hko]
      clear hG hko
      unfold resC
      obtain ⟨W3, hW3⟩ : ∃ V, w1.alloc (.cells #[.int .i64 (G 0), .int .i64 (G 1), .int .i64 (G 2), .int .i64 (G 3), .int .i64 (G 4), .int .i64 ko] 118) = V := ⟨_, rfl⟩
      have hb3 : Below w1.heap.size w1 W3 := by rw [← hW3]; exact (Below.refl _ _).alloc (Nat.le_refl _) _
      have HY3 : Hid (BoxIs w1.heap.size (resC G ko) W3) := by show BoxIs _ _ _; rw [← hW3]; exact BoxIs.start _ _ _
      have HX3 := hid (HX2.out.below hb3); have HM3 := hid (HM2.out.below hb3); have HN3 := hid (HN2.out.trans (near_below hb3))
      clear hb3
      go_upto_region 5 with fail
      clear hW3
      have k0 := (HY3.out.2 0 (.int .i64 (G 0)) rfl).1; have k1 := (HY3.out.2 1 (.int .i64 (G 1)) rfl).1; have k2 := (HY3.out.2 2 (.int .i64 (G 2)) rfl).1; have k3 := (HY3.out.2 3 (.int .i64 (G 3)) rfl).1; have k4 := (HY3.out.2 4 (.int .i64 (G 4)) rfl).1; have k5 := (HY3.out.2 5 (.int .i64 ko) rfl).1
      have z0 := (HX3.out.2 0 (.int .i64 (F 0)) rfl).1; have y0 := (HX3.out.2 0 (.int .i64 (F 0)) rfl).2; have z1 := (HX3.out.2 1 (.int .i64 (F 1)) rfl).1; have y1 := (HX3.out.2 1 (.int .i64 (F 1)) rfl).2; have z2 := (HX3.out.2 2 (.int .i64 (F 2)) rfl).1; have y2 := (HX3.out.2 2 (.int .i64 (F 2)) rfl).2; have z3 := (HX3.out.2 3 (.int .i64 (F 3)) rfl).1; have y3 := (HX3.out.2 3 (.int .i64 (F 3)) rfl).2; have z4 := (HX3.out.2 4 (.int .i64 (F 4)) rfl).1; have y4 := (HX3.out.2 4 (.int .i64 (F 4)) rfl).2; have z5 := (HX3.out.2 5 (.int .i64 kp) rfl).1; have y5 := (HX3.out.2 5 (.int .i64 kp) rfl).2
      have HX4 : Hid (BoxIs w.heap.size (resC G (kp + ko)) ((((((W3.setCell ⟨w.heap.size, 0, none⟩ (.int .i64 (G 0))).setCell ⟨w.heap.size, 1, none⟩ (.int .i64 (G 1))).setCell ⟨w.heap.size, 2, none⟩ (.int .i64 (G 2))).setCell ⟨w.heap.size, 3, none⟩ (.int .i64 (G 3))).setCell ⟨w.heap.size, 4, none⟩ (.int .i64 (G 4))).setCell ⟨w.heap.size, 5, none⟩ (.int .i64 (kp + ko)))) := hid ((((((HX3.out.put (j := 0) (.int .i64 (G 0))).put (j := 1) (.int .i64 (G 1))).put (j := 2) (.int .i64 (G 2))).put (j := 3) (.int .i64 (G 3))).put (j := 4) (.int .i64 (G 4))).put (j := 5) (.int .i64 (kp + ko)))
      have HN4 : Hid (Near (fun i => i = w.heap.size) W3 ((((((W3.setCell ⟨w.heap.size, 0, none⟩ (.int .i64 (G 0))).setCell ⟨w.heap.size, 1, none⟩ (.int .i64 (G 1))).setCell ⟨w.heap.size, 2, none⟩ (.int .i64 (G 2))).setCell ⟨w.heap.size, 3, none⟩ (.int .i64 (G 3))).setCell ⟨w.heap.size, 4, none⟩ (.int .i64 (G 4))).setCell ⟨w.heap.size, 5, none⟩ (.int .i64 (kp + ko)))) := hid (((((((Near.refl (fun i => i = w.heap.size) W3).setCell (p := ⟨w.heap.size, 0, none⟩) (fun _ => rfl) (.int .i64 (G 0))).setCell (p := ⟨w.heap.size, 1, none⟩) (fun _ => rfl) (.int .i64 (G 1))).setCell (p := ⟨w.heap.size, 2, none⟩) (fun _ => rfl) (.int .i64 (G 2))).setCell (p := ⟨w.heap.size, 3, none⟩) (fun _ => rfl) (.int .i64 (G 3))).setCell (p := ⟨w.heap.size, 4, none⟩) (fun _ => rfl) (.int .i64 (G 4))).setCell (p := ⟨w.heap.size, 5, none⟩) (fun _ => rfl) (.int .i64 (kp + ko)))
      go_wp2_with fail
      generalize ((((((W3.setCell ⟨w.heap.size, 0, none⟩ (.int .i64 (G 0))).setCell ⟨w.heap.size, 1, none⟩ (.int .i64 (G 1))).setCell ⟨w.heap.size, 2, none⟩ (.int .i64 (G 2))).setCell ⟨w.heap.size, 3, none⟩ (.int .i64 (G 3))).setCell ⟨w.heap.size, 4, none⟩ (.int .i64 (G 4))).setCell ⟨w.heap.size, 5, none⟩ (.int .i64 (kp + ko))) = W4 at HX4 HN4 ⊢
      clear k0 z0 y0 k1 z1 y1 k2 z2 y2 k3 z3 y3 k4 z4 y4 k5 z5 y5
      go_roundw
      case rel => exact ⟨k + 1, G, kp + ko, by omega, by go_num, HGO.out, by have h := HNG.out; rwa [show (1000 : Int) * k + 1000 = 1000 * ((k + 1 : Nat) : Int) by push_cast; omega] at h, by omega, HX4.out, ⟨M2, HM3.out.kept (HN4.out.block _ HM3.out.lt (by omega)), HK2.out⟩, HN3.out.trans' HN4.out (fun i h1 h2 => by omega)⟩
      case measure => simp [intOf]; omega
    · have hkm : k = m := by omega
      subst hkm
      have HF : Hid ((F, kp) = paysS p.ts th l) := by show _ = _; rw [paysS, ← HR.out, List.drop_of_length_le (by have := HMN.out; omega)]; rfl
      have z0 := (HX.out.2 0 (.int .i64 (F 0)) rfl).1; have y0 := (HX.out.2 0 (.int .i64 (F 0)) rfl).2; have z1 := (HX.out.2 1 (.int .i64 (F 1)) rfl).1; have y1 := (HX.out.2 1 (.int .i64 (F 1)) rfl).2; have z2 := (HX.out.2 2 (.int .i64 (F 2)) rfl).1; have y2 := (HX.out.2 2 (.int .i64 (F 2)) rfl).2; have z3 := (HX.out.2 3 (.int .i64 (F 3)) rfl).1; have y3 := (HX.out.2 3 (.int .i64 (F 3)) rfl).2; have z4 := (HX.out.2 4 (.int .i64 (F 4)) rfl).1; have y4 := (HX.out.2 4 (.int .i64 (F 4)) rfl).2; have z5 := (HX.out.2 5 (.int .i64 kp) rfl).1; have y5 := (HX.out.2 5 (.int .i64 kp) rfl).2
      have HX4 : Hid (BoxIs w.heap.size (resC F kp) ((((((wr.setCell ⟨w.heap.size, 0, none⟩ (.int .i64 (F 0))).setCell ⟨w.heap.size, 1, none⟩ (.int .i64 (F 1))).setCell ⟨w.heap.size, 2, none⟩ (.int .i64 (F 2))).setCell ⟨w.heap.size, 3, none⟩ (.int .i64 (F 3))).setCell ⟨w.heap.size, 4, none⟩ (.int .i64 (F 4))).setCell ⟨w.heap.size, 5, none⟩ (.int .i64 kp))) := hid ((((((HX.out.put (j := 0) (.int .i64 (F 0))).put (j := 1) (.int .i64 (F 1))).put (j := 2) (.int .i64 (F 2))).put (j := 3) (.int .i64 (F 3))).put (j := 4) (.int .i64 (F 4))).put (j := 5) (.int .i64 kp))
      have HN4 : Hid (Near (fun i => i = w.heap.size) wr ((((((wr.setCell ⟨w.heap.size, 0, none⟩ (.int .i64 (F 0))).setCell ⟨w.heap.size, 1, none⟩ (.int .i64 (F 1))).setCell ⟨w.heap.size, 2, none⟩ (.int .i64 (F 2))).setCell ⟨w.heap.size, 3, none⟩ (.int .i64 (F 3))).setCell ⟨w.heap.size, 4, none⟩ (.int .i64 (F 4))).setCell ⟨w.heap.size, 5, none⟩ (.int .i64 kp))) := hid (((((((Near.refl (fun i => i = w.heap.size) wr).setCell (p := ⟨w.heap.size, 0, none⟩) (fun _ => rfl) (.int .i64 (F 0))).setCell (p := ⟨w.heap.size, 1, none⟩) (fun _ => rfl) (.int .i64 (F 1))).setCell (p := ⟨w.heap.size, 2, none⟩) (fun _ => rfl) (.int .i64 (F 2))).setCell (p := ⟨w.heap.size, 3, none⟩) (fun _ => rfl) (.int .i64 (F 3))).setCell (p := ⟨w.heap.size, 4, none⟩) (fun _ => rfl) (.int .i64 (F 4))).setCell (p := ⟨w.heap.size, 5, none⟩) (fun _ => rfl) (.int .i64 kp))
      go_wp2_with fail
      generalize ((((((wr.setCell ⟨w.heap.size, 0, none⟩ (.int .i64 (F 0))).setCell ⟨w.heap.size, 1, none⟩ (.int .i64 (F 1))).setCell ⟨w.heap.size, 2, none⟩ (.int .i64 (F 2))).setCell ⟨w.heap.size, 3, none⟩ (.int .i64 (F 3))).setCell ⟨w.heap.size, 4, none⟩ (.int .i64 (F 4))).setCell ⟨w.heap.size, 5, none⟩ (.int .i64 kp)) = W4 at HX4 HN4 ⊢
      clear z0 y0 z1 y1 z2 y2 z3 y3 z4 y4 z5 y5
      have x0 := (HX4.out.2 0 (.int .i64 (F 0)) rfl).1; have x1 := (HX4.out.2 1 (.int .i64 (F 1)) rfl).1; have x2 := (HX4.out.2 2 (.int .i64 (F 2)) rfl).1; have x3 := (HX4.out.2 3 (.int .i64 (F 3)) rfl).1; have x4 := (HX4.out.2 4 (.int .i64 (F 4)) rfl).1; have x5 := (HX4.out.2 5 (.int .i64 kp) rfl).1
      refine bodyPost_ret (v := .agg (resC F kp)) (by simp [resC, results, Try.f66, go_sem, x0, x1, x2, x3, x4, x5]) rfl ?_
      refine ⟨by rw [← HF.out], M', HM.out.kept (HN4.out.block _ HM.out.lt (by omega)), HKN.out, HN.out.trans' HN4.out (fun i h1 h2 => by omega)⟩
end Go.Proofs.Ytaioobhblfnlaaa
