/- The statements' examples: the chapter's programme, with reports, with another reserve. No condition. -/
import Derived.Test.YtaioobhblfnlaaaD1
namespace Go.Proofs.Ytaioobhblfnlaaa
open Go.RowKit


def lossT : List Rng := [⟨100, 120⟩, ⟨300, 300⟩]
def treT : List Tre := [⟨0, 25, 0, 0, 0, 50, (-1)⟩, ⟨1, 0, 50, 100, 0, 30, (-1)⟩, ⟨1, 0, 20, 40, 1, 5, 0⟩]
def twoR : List Rep := [⟨0, ⟨103, 110⟩⟩, ⟨2, ⟨45, 46⟩⟩]
/-- The chapter's programme. -/
def threeP (m : Int) (reps : List Rep) : Prg := ⟨lossT, m, treT, reps⟩
def lossC : Array Value := #[.int .i64 100, .int .i64 120, .int .i64 300, .int .i64 300]
def treC : Array Value := #[.int .i64 0, .int .i64 25, .int .i64 0, .int .i64 0, .int .i64 0, .int .i64 50, .int .i64 (-1), .int .i64 1, .int .i64 0, .int .i64 50, .int .i64 100, .int .i64 0, .int .i64 30, .int .i64 (-1), .int .i64 1, .int .i64 0, .int .i64 20, .int .i64 40, .int .i64 1, .int .i64 5, .int .i64 0]
def twoC : Array Value := #[.int .i64 0, .int .i64 103, .int .i64 110, .int .i64 2, .int .i64 45, .int .i64 46]
theorem BoxIs.rows {α : Type} {enc : α → List Value} {z b : Nat} {l : List α} {W : World} (hz : ∀ c, (enc c).length = z) (h : BoxIs b (l.flatMap enc).toArray W) : RowsAt enc z W (some ⟨b, 0, none⟩) l.length l :=
  ⟨rfl, fun i c hi => ⟨b, 0, rfl, h.1, fun j v hj => by
    rw [show 0 + i * z + j = i * z + j by omega]; exact (h.2 _ v (by simpa using flat_get hz l i j c v hi hj)).1⟩⟩
def ThreePost (m : Int) (rp : Option Addr) (rn rc : Nat) (w : World) : Ending → World → Prop := fun e w' => ∃ b1 b2, e = .returned (.agg #[.slice (some ⟨b1, 0, none⟩) 2 2, .int .i64 m, .slice (some ⟨b2, 0, none⟩) 3 3, .slice rp rn rc]) ∧
  BoxIs b1 lossC w' ∧ BoxIs b2 treC w' ∧ (w.heap.size ≤ b1 ∧ w.heap.size ≤ b2 ∧ b1 ≠ b2) ∧ Below w.heap.size w w'
theorem three_at {W : World} {b1 b2 : Nat} {m : Int} {reps : List Rep} {rp : Option Addr} {rn : Nat} (h1 : BoxIs b1 lossC W) (h2 : BoxIs b2 treC W) (hr : RowsAt cellsE 3 W rp rn reps) : PrgAt W (threeP m reps) (some ⟨b1, 0, none⟩) 2 (some ⟨b2, 0, none⟩) 3 rp rn :=
  ⟨BoxIs.rows (l := lossT) cellsR_len h1, BoxIs.rows (l := treT) cellsT_len h2, hr⟩
def TwoRPost (w : World) : Ending → World → Prop := fun e w' => ∃ b, e = .returned (.slice (some ⟨b, 0, none⟩) 2 2) ∧ BoxIs b twoC w' ∧ w.heap.size ≤ b ∧ Below w.heap.size w w'
theorem two_at {W : World} {b : Nat} (h : BoxIs b twoC W) : RowsAt cellsE 3 W (some ⟨b, 0, none⟩) 2 twoR := BoxIs.rows (l := twoR) cellsE_len h
theorem rows_none {α : Type} {enc : α → List Value} {z : Nat} (W : World) : RowsAt enc z W none 0 ([] : List α) := ⟨rfl, fun i c hi => by simp at hi⟩

set_option maxRecDepth 20000 in
set_option maxHeartbeats 1000000 in
theorem two_any (w : World) : Calls Try.prog 51 #[] w (TwoRPost w) := by
  have HB0 : Hid (Below w.heap.size w w) := hid (Below.refl _ _)
  go_enter Try.func51, Try.ntmps51
  go_wp2_with fail
  (with_reducible refine (between_any 103 110 _).mono ?_)
  rintro e w1 ⟨rfl, hb⟩
  have HB1 := hid (HB0.out.trans (hb.mono HB0.out.size))
  clear hb
  go_wp2_with fail
  (with_reducible refine (between_any 45 46 _).mono ?_)
  rintro e w2 ⟨rfl, hb⟩
  have HB2 := hid (HB1.out.trans (hb.mono HB1.out.size))
  clear hb
  have HN : Hid (BoxIs w2.heap.size twoC (w2.alloc (.cells twoC 89))) := hid (BoxIs.start _ _ _)
  have HB3 : Hid (Below w.heap.size w (w2.alloc (.cells twoC 89))) := hid (HB2.out.alloc HB2.out.size _)
  unfold twoC at HN HB3
  go_wp2_with fail
  go_ret
  exact ⟨_, rfl, HN.out, HB2.out.size, HB3.out⟩

set_option maxRecDepth 20000 in
set_option maxHeartbeats 1000000 in
theorem three_any (rp : Option Addr) (rn rc : Nat) (w : World) : Calls Try.prog 48 #[.slice rp rn rc] w (ThreePost 200 rp rn rc w) := by
  have HX0 := hid (BoxIs.start w #[.slice none 0 0, .int .i64 0, .slice none 0 0, .slice none 0 0] 37)
  have HB0 : Hid (Below w.heap.size w (w.alloc (.cells #[.slice none 0 0, .int .i64 0, .slice none 0 0, .slice none 0 0] 37))) := hid ((Below.refl _ _).alloc (Nat.le_refl _) _)
  go_enter Try.func48, Try.ntmps48
  go_wp2_with fail
  (with_reducible refine (between_any 100 120 _).mono ?_)
  rintro e w1 ⟨rfl, hb⟩
  have HB1 := hid (HB0.out.trans (hb.mono HB0.out.size))
  have HX1 := hid (HX0.out.below hb)
  clear hb
  go_wp2_with fail
  (with_reducible refine (between_any 300 300 _).mono ?_)
  rintro e w2 ⟨rfl, hb⟩
  have HB2 := hid (HB1.out.trans (hb.mono HB1.out.size))
  have HX2 := hid (HX1.out.below hb)
  clear hb
  obtain ⟨w4, hw4⟩ : ∃ V, (w2.alloc (.cells lossC 51)).alloc (.cells treC 87) = V := ⟨_, rfl⟩
  have hb : Below w2.heap.size w2 w4 := by rw [← hw4]; exact ((Below.refl _ _).alloc (Nat.le_refl _) _).alloc (by simp) _
  have HL : Hid (BoxIs w2.heap.size lossC w4) := hid (by rw [← hw4]; exact (BoxIs.start w2 lossC 51).below ((Below.refl _ _).alloc (Nat.le_refl _) _))
  have HT : Hid (BoxIs (w2.heap.size + 1) treC w4) := hid (by have h := BoxIs.start (w2.alloc (.cells lossC 51)) treC 87; rw [World.size_alloc, hw4] at h; exact h)
  have HX4 := hid (HX2.out.below hb); have HB4 := hid (HB2.out.trans (hb.mono HB2.out.size))
  have HLE := hid HX2.out.1
  unfold lossC treC at hw4
  clear hb
  have z0 := (HX4.out.2 0 (.slice none 0 0) rfl).1; have y0 := (HX4.out.2 0 (.slice none 0 0) rfl).2; have z1 := (HX4.out.2 1 (.int .i64 0) rfl).1; have y1 := (HX4.out.2 1 (.int .i64 0) rfl).2; have z2 := (HX4.out.2 2 (.slice none 0 0) rfl).1; have y2 := (HX4.out.2 2 (.slice none 0 0) rfl).2; have z3 := (HX4.out.2 3 (.slice none 0 0) rfl).1; have y3 := (HX4.out.2 3 (.slice none 0 0) rfl).2
  have HR := hid ((((HX4.out.put (j := 0) (.slice (some ⟨w2.heap.size, 0, none⟩) 2 2)).put (j := 1) (.int .i64 200)).put (j := 2) (.slice (some ⟨w2.heap.size + 1, 0, none⟩) 3 3)).put (j := 3) (.slice rp rn rc))
  have HN9 := hid (((((Near.refl (fun i => i = w.heap.size) w4).setCell (p := ⟨w.heap.size, 0, none⟩) (fun _ => rfl) (.slice (some ⟨w2.heap.size, 0, none⟩) 2 2)).setCell (p := ⟨w.heap.size, 1, none⟩) (fun _ => rfl) (.int .i64 200)).setCell (p := ⟨w.heap.size, 2, none⟩) (fun _ => rfl) (.slice (some ⟨w2.heap.size + 1, 0, none⟩) 3 3)).setCell (p := ⟨w.heap.size, 3, none⟩) (fun _ => rfl) (.slice rp rn rc))
  go_wp2_with fail
  generalize ((((w4.setCell ⟨w.heap.size, 0, none⟩ (.slice (some ⟨w2.heap.size, 0, none⟩) 2 2)).setCell ⟨w.heap.size, 1, none⟩ (.int .i64 200)).setCell ⟨w.heap.size, 2, none⟩ (.slice (some ⟨w2.heap.size + 1, 0, none⟩) 3 3)).setCell ⟨w.heap.size, 3, none⟩ (.slice rp rn rc)) = W9 at HR HN9 ⊢
  clear hw4 z0 y0 z1 y1 z2 y2 z3 y3
  have x0 := (HR.out.2 0 (.slice (some ⟨w2.heap.size, 0, none⟩) 2 2) rfl).1; have x1 := (HR.out.2 1 (.int .i64 200) rfl).1; have x2 := (HR.out.2 2 (.slice (some ⟨w2.heap.size + 1, 0, none⟩) 3 3) rfl).1; have x3 := (HR.out.2 3 (.slice rp rn rc) rfl).1
  refine bodyPost_ret (v := .agg #[.slice (some ⟨w2.heap.size, 0, none⟩) 2 2, .int .i64 200, .slice (some ⟨w2.heap.size + 1, 0, none⟩) 3 3, .slice rp rn rc]) (by simp [results, Try.f48, go_sem, x0, x1, x2, x3]) rfl ?_
  exact ⟨_, _, rfl, HL.out.far HN9.out (by have h := HLE.out; omega), HT.out.far HN9.out (by have h := HLE.out; omega), ⟨HB2.out.size, Nat.le_succ_of_le HB2.out.size, by omega⟩, HB4.out.trans (HN9.out.below HB4.out.size (fun k h1 h2 => by omega))⟩

set_option maxRecDepth 20000 in
set_option maxHeartbeats 1000000 in
theorem reserved_any (n : Int) (w : World) : Calls Try.prog 49 #[.int .i64 n] w (ThreePost n none 0 0 w) := by
  have HX0 := hid (BoxIs.start w #[.slice none 0 0, .int .i64 0, .slice none 0 0, .slice none 0 0] 37)
  have HB0 : Hid (Below w.heap.size w (w.alloc (.cells #[.slice none 0 0, .int .i64 0, .slice none 0 0, .slice none 0 0] 37))) := hid ((Below.refl _ _).alloc (Nat.le_refl _) _)
  go_enter Try.func49, Try.ntmps49
  go_wp2_with fail
  (with_reducible refine (three_any none 0 0 _).mono ?_)
  rintro e w1 ⟨b1, b2, rfl, h1, h2, ⟨h3, h4, h5⟩, hb⟩
  rw [World.size_alloc] at h3 h4
  go_upto_region 2 with fail
  obtain ⟨w2, hw2⟩ : ∃ V, w1.alloc (.cells #[.slice (some ⟨b1, 0, none⟩) 2 2, .int .i64 200, .slice (some ⟨b2, 0, none⟩) 3 3, .slice none 0 0] 37) = V := ⟨_, rfl⟩
  rw [hw2]
  have hb2 : Below w1.heap.size w1 w2 := by rw [← hw2]; exact (Below.refl _ _).alloc (Nat.le_refl _) _
  have HP2 : Hid (BoxIs w1.heap.size #[.slice (some ⟨b1, 0, none⟩) 2 2, .int .i64 200, .slice (some ⟨b2, 0, none⟩) 3 3, .slice none 0 0] w2) := hid (by rw [← hw2]; exact BoxIs.start _ _ _)
  have HL := hid (h1.below hb2); have HT := hid (h2.below hb2); have HX2 := hid ((HX0.out.below hb).below hb2); have HB2 := hid ((HB0.out.trans (hb.mono HB0.out.size)).trans (hb2.mono (Nat.le_trans HB0.out.size hb.size)))
  have HLE := hid (HX0.out.below hb).1
  have HL1 := hid h1.1; have HL2 := hid h2.1
  have H3 := hid h3; have H4 := hid h4; have H5 := hid h5
  clear h1 h2 h3 h4 h5 hb hb2
  clear hw2
  have k1 := (HP2.out.2 1 (.int .i64 200) rfl).1; have f1 := (HP2.out.2 1 (.int .i64 200) rfl).2
  have HP3 := hid (HP2.out.put (j := 1) (.int .i64 n))
  have HN3 := hid ((Near.refl (fun i => i = w1.heap.size) w2).setCell (p := ⟨w1.heap.size, 1, none⟩) (fun _ => rfl) (.int .i64 n))
  go_upto_region 3 with fail
  generalize (w2.setCell ⟨w1.heap.size, 1, none⟩ (.int .i64 n)) = w3 at HP3 HN3 ⊢
  clear k1 f1
  have HX3 := hid (HX2.out.far HN3.out (by have := HLE.out; omega)); have HL3 := hid (HL.out.far HN3.out (by have := HL1.out; omega)); have HT3 := hid (HT.out.far HN3.out (by have := HL2.out; omega)); have HB3 := hid (HB2.out.trans (HN3.out.below HB2.out.size (fun k h1 h2 => by have := HLE.out; omega)))
  have z0 := (HX3.out.2 0 (.slice none 0 0) rfl).1; have y0 := (HX3.out.2 0 (.slice none 0 0) rfl).2; have z1 := (HX3.out.2 1 (.int .i64 0) rfl).1; have y1 := (HX3.out.2 1 (.int .i64 0) rfl).2; have z2 := (HX3.out.2 2 (.slice none 0 0) rfl).1; have y2 := (HX3.out.2 2 (.slice none 0 0) rfl).2; have z3 := (HX3.out.2 3 (.slice none 0 0) rfl).1; have y3 := (HX3.out.2 3 (.slice none 0 0) rfl).2
  have k0 := (HP3.out.2 0 (.slice (some ⟨b1, 0, none⟩) 2 2) rfl).1; have k1 := (HP3.out.2 1 (.int .i64 n) rfl).1; have k2 := (HP3.out.2 2 (.slice (some ⟨b2, 0, none⟩) 3 3) rfl).1; have k3 := (HP3.out.2 3 (.slice none 0 0) rfl).1
  have HR := hid ((((HX3.out.put (j := 0) (.slice (some ⟨b1, 0, none⟩) 2 2)).put (j := 1) (.int .i64 n)).put (j := 2) (.slice (some ⟨b2, 0, none⟩) 3 3)).put (j := 3) (.slice none 0 0))
  have HN9 := hid (((((Near.refl (fun i => i = w.heap.size) w3).setCell (p := ⟨w.heap.size, 0, none⟩) (fun _ => rfl) (.slice (some ⟨b1, 0, none⟩) 2 2)).setCell (p := ⟨w.heap.size, 1, none⟩) (fun _ => rfl) (.int .i64 n)).setCell (p := ⟨w.heap.size, 2, none⟩) (fun _ => rfl) (.slice (some ⟨b2, 0, none⟩) 3 3)).setCell (p := ⟨w.heap.size, 3, none⟩) (fun _ => rfl) (.slice none 0 0))
  go_wp2_with fail
  generalize ((((w3.setCell ⟨w.heap.size, 0, none⟩ (.slice (some ⟨b1, 0, none⟩) 2 2)).setCell ⟨w.heap.size, 1, none⟩ (.int .i64 n)).setCell ⟨w.heap.size, 2, none⟩ (.slice (some ⟨b2, 0, none⟩) 3 3)).setCell ⟨w.heap.size, 3, none⟩ (.slice none 0 0)) = W9 at HR HN9 ⊢
  clear z0 y0 k0 z1 y1 k1 z2 y2 k2 z3 y3 k3
  have x0 := (HR.out.2 0 (.slice (some ⟨b1, 0, none⟩) 2 2) rfl).1; have x1 := (HR.out.2 1 (.int .i64 n) rfl).1; have x2 := (HR.out.2 2 (.slice (some ⟨b2, 0, none⟩) 3 3) rfl).1; have x3 := (HR.out.2 3 (.slice none 0 0) rfl).1
  refine bodyPost_ret (v := .agg #[.slice (some ⟨b1, 0, none⟩) 2 2, .int .i64 n, .slice (some ⟨b2, 0, none⟩) 3 3, .slice none 0 0]) (by simp [results, Try.f49, go_sem, x0, x1, x2, x3]) rfl ?_
  exact ⟨_, _, rfl, HL3.out.far HN9.out (by have h := H3.out; omega), HT3.out.far HN9.out (by have h := H4.out; omega), ⟨by have := H3.out; omega, by have := H4.out; omega, H5.out⟩, HB3.out.trans (HN9.out.below HB3.out.size (fun k h1 h2 => by omega))⟩
end Go.Proofs.Ytaioobhblfnlaaa
