/- Package storm: every, work, the iterators that are made. No condition. -/
import Derived.Test.YtfnefkenheglhaaMap
import Derived.Test.YtfnefkenheglhaaA5
import Derived.Laws.ResultCell
namespace Go.Proofs.Ytfnefkenheglhaa
open Go.RowKit

def B6 (f : Nat → Bool) : Array Value := #[.bool (f 0), .bool (f 1), .bool (f 2), .bool (f 3), .bool (f 4), .bool (f 5)]
def updB (f : Nat → Bool) (k : Nat) (v : Bool) : Nat → Bool := fun j => if j = k then v else f j
theorem BoxIs.set6 {b : Nat} {f : Nat → Bool} {W : World} (h : BoxIs b (B6 f) W) {k : Nat} (hk : k < 6) (v : Bool) : BoxIs b (B6 (updB f k v)) (W.setCell ⟨b, k, none⟩ (.bool v)) := by
  match k, hk with
  | 0, _ => exact h.put (j := 0) _
  | 1, _ => exact h.put (j := 1) _
  | 2, _ => exact h.put (j := 2) _
  | 3, _ => exact h.put (j := 3) _
  | 4, _ => exact h.put (j := 4) _
  | 5, _ => exact h.put (j := 5) _
theorem BoxIs.get6 {b : Nat} {f : Nat → Bool} {W : World} (h : BoxIs b (B6 f) W) {k : Nat} (hk : k < 6) : W.cell? ⟨b, k, none⟩ = some (.bool (f k)) ∧ W.frozen? ⟨b, k, none⟩ = false := by
  match k, hk with
  | 0, _ => exact h.2 0 _ rfl
  | 1, _ => exact h.2 1 _ rfl
  | 2, _ => exact h.2 2 _ rfl
  | 3, _ => exact h.2 3 _ rfl
  | 4, _ => exact h.2 4 _ rfl
  | 5, _ => exact h.2 5 _ rfl
theorem B6_ext {f g : Nat → Bool} (h : ∀ i, i < 6 → f i = g i) : B6 f = B6 g := by
  unfold B6
  rw [h 0 (by omega), h 1 (by omega), h 2 (by omega), h 3 (by omega), h 4 (by omega), h 5 (by omega)]
theorem BoxIs.same6 {b : Nat} {f : Nat → Bool} {W : World} (h : BoxIs b (B6 f) W) : BoxIs b (B6 f) ((((((W.setCell ⟨b, 0, none⟩ (.bool (f 0))).setCell ⟨b, 1, none⟩ (.bool (f 1))).setCell ⟨b, 2, none⟩ (.bool (f 2))).setCell ⟨b, 3, none⟩ (.bool (f 3))).setCell ⟨b, 4, none⟩ (.bool (f 4))).setCell ⟨b, 5, none⟩ (.bool (f 5))) :=
  (((((h.put (j := 0) _).put (j := 1) _).put (j := 2) _).put (j := 3) _).put (j := 4) _).put (j := 5) _
theorem BoxIs.put6 {b : Nat} {f g : Nat → Bool} {W : World} (h : BoxIs b (B6 f) W) : BoxIs b (B6 g) ((((((W.setCell ⟨b, 0, none⟩ (.bool (g 0))).setCell ⟨b, 1, none⟩ (.bool (g 1))).setCell ⟨b, 2, none⟩ (.bool (g 2))).setCell ⟨b, 3, none⟩ (.bool (g 3))).setCell ⟨b, 4, none⟩ (.bool (g 4))).setCell ⟨b, 5, none⟩ (.bool (g 5))) :=
  (((((h.put (j := 0) _).put (j := 1) _).put (j := 2) _).put (j := 3) _).put (j := 4) _).put (j := 5) _
theorem BoxIs.other6 {b b' : Nat} {vs : Array Value} {W : World} (h : BoxIs b vs W) (hb : b ≠ b') (x0 x1 x2 x3 x4 x5 : Value) : BoxIs b vs ((((((W.setCell ⟨b', 0, none⟩ x0).setCell ⟨b', 1, none⟩ x1).setCell ⟨b', 2, none⟩ x2).setCell ⟨b', 3, none⟩ x3).setCell ⟨b', 4, none⟩ x4).setCell ⟨b', 5, none⟩ x5) :=
  (((((h.other (k' := 0) hb x0).other (k' := 1) hb x1).other (k' := 2) hb x2).other (k' := 3) hb x3).other (k' := 4) hb x4).other (k' := 5) hb x5
theorem below_put6 {B b : Nat} {w W : World} (h : Below B w W) (hb : B ≤ b) (x0 x1 x2 x3 x4 x5 : Value) : Below B w ((((((W.setCell ⟨b, 0, none⟩ x0).setCell ⟨b, 1, none⟩ x1).setCell ⟨b, 2, none⟩ x2).setCell ⟨b, 3, none⟩ x3).setCell ⟨b, 4, none⟩ x4).setCell ⟨b, 5, none⟩ x5) :=
  (((((h.setCell (p := ⟨b, 0, none⟩) hb x0).setCell (p := ⟨b, 1, none⟩) hb x1).setCell (p := ⟨b, 2, none⟩) hb x2).setCell (p := ⟨b, 3, none⟩) hb x3).setCell (p := ⟨b, 4, none⟩) hb x4).setCell (p := ⟨b, 5, none⟩) hb x5

set_option maxRecDepth 20000 in
set_option maxHeartbeats 1000000 in
theorem every6_any (w : World) : Calls Try.prog 98 #[] w fun e w' => e = .returned (.agg #[.bool true, .bool true, .bool true, .bool true, .bool true, .bool true]) ∧ Below w.heap.size w w' := by
  go_enter Try.func98, Try.ntmps98
  go_wp2
  go_loopw [2] (fun i wr => ∃ k : Nat, k ≤ 6 ∧ i = .int .i64 k ∧ BoxIs w.heap.size (B6 fun i => decide (i < k)) wr ∧ Below w.heap.size w wr) (fun i _ => 6 - (intOf i).toNat)
  case atStart => exact ⟨0, by omega, rfl, BoxIs.start _ _ _, (Below.refl _ _).alloc (Nat.le_refl _) _⟩
  case round =>
    obtain ⟨k, hk, rfl, hx, hb⟩ := hrel
    have HX := hid hx
    have HB := hid hb
    clear hx hb
    by_cases hlt : k < 6
    · obtain ⟨g, f⟩ := HX.out.get6 hlt
      go_wp2
      go_roundw
      case rel =>
        refine ⟨k + 1, by omega, by go_num, ?_, HB.out.setCell (p := ⟨w.heap.size, k, none⟩) (Nat.le_refl _) _⟩
        have h := HX.out.set6 hlt true
        rwa [B6_ext (g := fun i => decide (i < k + 1)) (fun i _ => by unfold updB; by_cases e : i = k <;> simp [e] <;> omega)] at h
      case measure => simp [intOf]; omega
    · have hk6 : k = 6 := by omega
      subst hk6
      have HX6 : Hid (BoxIs w.heap.size (B6 fun _ => true) wr) := by
        show BoxIs _ _ _
        have h := HX.out
        rwa [B6_ext (g := fun _ => true) (fun i hi => by simp [hi])] at h
      have g0 := HX6.out.2 0 (.bool true) rfl; have g1 := HX6.out.2 1 (.bool true) rfl; have g2 := HX6.out.2 2 (.bool true) rfl; have g3 := HX6.out.2 3 (.bool true) rfl; have g4 := HX6.out.2 4 (.bool true) rfl; have g5 := HX6.out.2 5 (.bool true) rfl
      have HR := HX6.out.same6
      have y0 := (HR.2 0 (.bool true) rfl).1; have y1 := (HR.2 1 (.bool true) rfl).1; have y2 := (HR.2 2 (.bool true) rfl).1; have y3 := (HR.2 3 (.bool true) rfl).1; have y4 := (HR.2 4 (.bool true) rfl).1; have y5 := (HR.2 5 (.bool true) rfl).1
      have HY := hid (And.intro y0 (And.intro y1 (And.intro y2 (And.intro y3 (And.intro y4 y5)))))
      clear y0 y1 y2 y3 y4 y5 HR
      obtain ⟨g0, f0⟩ := g0; obtain ⟨g1, f1⟩ := g1; obtain ⟨g2, f2⟩ := g2; obtain ⟨g3, f3⟩ := g3; obtain ⟨g4, f4⟩ := g4; obtain ⟨g5, f5⟩ := g5
      go_wp2
      obtain ⟨y0, y1, y2, y3, y4, y5⟩ := HY.out
      refine bodyPost_ret (v := .agg #[.bool true, .bool true, .bool true, .bool true, .bool true, .bool true]) (by simp [results, Try.f98, go_sem, y0, y1, y2, y3, y4, y5]) rfl ?_
      exact ⟨rfl, below_put6 HB.out (Nat.le_refl _) _ _ _ _ _ _⟩

/-- A storm at work, in block b, with the map of what is known. -/
structure WorkAt (W : World) (b : Nat) (s : Sto) (p : Option Addr) (n c : Nat) (bm : Nat) : Prop where
  sto : StoAt W b s p n c
  c12 : W.cell? ⟨b, 12, none⟩ = some (.map (some bm))
theorem WorkAt.lt {W : World} {b : Nat} {s : Sto} {p : Option Addr} {n c bm : Nat} (h : WorkAt W b s p n c bm) : b < W.heap.size := h.sto.lt
theorem WorkAt.kept {W W' : World} {b : Nat} {s : Sto} {p : Option Addr} {n c bm : Nat} (h : WorkAt W b s p n c bm) (hb : W'.heap[b]? = W.heap[b]?) : WorkAt W' b s p n c bm := ⟨h.sto.kept hb, (World.cell?_of_block hb).trans h.c12⟩
theorem WorkAt.below {W W' : World} {b : Nat} {s : Sto} {p : Option Addr} {n c bm : Nat} (h : WorkAt W b s p n c bm) (hb : Below W.heap.size W W') : WorkAt W' b s p n c bm := h.kept (hb.block _ h.lt)

set_option maxRecDepth 20000 in
set_option maxHeartbeats 1000000 in
theorem work_any (s : Sto) (p : Option Addr) (n c : Nat) (w : World) :
    Calls Try.prog 81 #[.agg #[.int .i64 s.wide, .int .i64 s.high, .int .i64 s.fall, .int .i64 s.a.lo, .int .i64 s.a.hi, .int .i64 s.b.lo, .int .i64 s.b.hi, .int .i64 s.half.lo, .int .i64 s.half.hi, .int .i64 s.peak.lo, .int .i64 s.peak.hi, .slice p n c]] w fun e w' => e = .returned (.pointer (some ⟨w.heap.size + 2, 0, none⟩)) ∧ WorkAt w' (w.heap.size + 2) s p n c (w.heap.size + 1) ∧ MapV w' 94 (w.heap.size + 1) 0 (fun _ => none) ∧ w'.heap.size = w.heap.size + 3 ∧ Below w.heap.size w w' := by
  have hmm := @run_makeMap Try.prog
  go_enter Try.func81, Try.ntmps81
  go_wp2_with fail
  go_ret
  have hb1 : Below w.heap.size w (w.alloc (.cells #[.int .i64 s.wide, .int .i64 s.high, .int .i64 s.fall, .int .i64 s.a.lo, .int .i64 s.a.hi, .int .i64 s.b.lo, .int .i64 s.b.hi, .int .i64 s.half.lo, .int .i64 s.half.hi, .int .i64 s.peak.lo, .int .i64 s.peak.hi, .slice p n c] 35)) := (Below.refl _ _).alloc (Nat.le_refl _) _
  have hM := MapV.made (w.alloc (.cells #[.int .i64 s.wide, .int .i64 s.high, .int .i64 s.fall, .int .i64 s.a.lo, .int .i64 s.a.hi, .int .i64 s.b.lo, .int .i64 s.b.hi, .int .i64 s.half.lo, .int .i64 s.half.hi, .int .i64 s.peak.lo, .int .i64 s.peak.hi, .slice p n c] 35)) 94
  rw [World.size_alloc] at hM
  have hc : ∀ (i : Nat) (v : Value), (#[.int .i64 s.wide, .int .i64 s.high, .int .i64 s.fall, .int .i64 s.a.lo, .int .i64 s.a.hi, .int .i64 s.b.lo, .int .i64 s.b.hi, .int .i64 s.half.lo, .int .i64 s.half.hi, .int .i64 s.peak.lo, .int .i64 s.peak.hi, .slice p n c, .map (some (w.heap.size + 1))] : Array Value)[i]? = some v →
      ((((w.alloc (.cells #[.int .i64 s.wide, .int .i64 s.high, .int .i64 s.fall, .int .i64 s.a.lo, .int .i64 s.a.hi, .int .i64 s.b.lo, .int .i64 s.b.hi, .int .i64 s.half.lo, .int .i64 s.half.hi, .int .i64 s.peak.lo, .int .i64 s.peak.hi, .slice p n c] 35)).alloc (.map #[] 0)).alloc (.cells #[.int .i64 s.wide, .int .i64 s.high, .int .i64 s.fall, .int .i64 s.a.lo, .int .i64 s.a.hi, .int .i64 s.b.lo, .int .i64 s.b.hi, .int .i64 s.half.lo, .int .i64 s.half.hi, .int .i64 s.peak.lo, .int .i64 s.peak.hi, .slice p n c, .map (some (w.heap.size + 1))] 165)).cell? ⟨w.heap.size + 2, i, none⟩ = some v) := by
    intro i v hv
    have := cell_box ((w.alloc (.cells #[.int .i64 s.wide, .int .i64 s.high, .int .i64 s.fall, .int .i64 s.a.lo, .int .i64 s.a.hi, .int .i64 s.b.lo, .int .i64 s.b.hi, .int .i64 s.half.lo, .int .i64 s.half.hi, .int .i64 s.peak.lo, .int .i64 s.peak.hi, .slice p n c] 35)).alloc (.map #[] 0)) _ 165 i v hv
    rw [World.size_alloc, World.size_alloc] at this
    exact this
  refine ⟨by rfl, ⟨⟨hc 0 _ rfl, hc 1 _ rfl, hc 2 _ rfl, hc 3 _ rfl, hc 4 _ rfl, hc 5 _ rfl, hc 6 _ rfl, hc 7 _ rfl, hc 8 _ rfl, hc 9 _ rfl, hc 10 _ rfl, hc 11 _ rfl⟩, hc 12 _ rfl⟩, hM.below ((Below.refl _ _).alloc (Nat.le_refl _) _), by simp, (hb1.alloc (by simp) _).alloc (by simp; omega) _⟩

set_option maxRecDepth 20000 in
set_option maxHeartbeats 1000000 in
theorem placesF_any (x y : Rng) (w : World) :
    Calls Try.prog 78 #[.agg #[.int .i64 x.lo, .int .i64 x.hi, .int .i64 y.lo, .int .i64 y.hi]] w fun e w' => e = .returned (.func (.func 113) #[] #[.pointer (some ⟨w.heap.size, 0, none⟩)]) ∧ w' = w.alloc (.cells #[.int .i64 x.lo, .int .i64 x.hi, .int .i64 y.lo, .int .i64 y.hi] 70) := by
  have hmf : ∀ (fn : Fn) (first cap : Array Value) (w : World), (Instr.makeFunc fn first cap).run Try.prog w = .ok (.func fn first cap) w := fun _ _ _ _ => rfl
  go_enter Try.func78, Try.ntmps78
  go_wp2_with fail
  go_ret
  exact ⟨rfl, rfl⟩

set_option maxRecDepth 20000 in
set_option maxHeartbeats 1000000 in
theorem possibleF_any (b : Nat) (w : World) :
    Calls Try.prog 82 #[.pointer (some ⟨b, 0, none⟩)] w fun e w' => e = .returned (.func (.func 115) #[] #[.pointer (some ⟨w.heap.size, 0, none⟩)]) ∧ w' = w.alloc (.cells #[.pointer (some ⟨b, 0, none⟩)] 120) := by
  have hmf : ∀ (fn : Fn) (first cap : Array Value) (w : World), (Instr.makeFunc fn first cap).run Try.prog w = .ok (.func fn first cap) w := fun _ _ _ _ => rfl
  go_enter Try.func82, Try.ntmps82
  go_wp2_with fail
  go_ret
  exact ⟨rfl, rfl⟩
end Go.Proofs.Ytfnefkenheglhaa
