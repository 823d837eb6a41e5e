/- Package storm: the bounds. No condition. -/
import Derived.Test.YtfnefkenheglhaaP10
import Derived.Test.YtfnefkenheglhaaRanL
namespace Go.Proofs.Ytfnefkenheglhaa
open Go.RowKit

theorem eqnil33 (p : Option Addr) (n c : Nat) (w : World) : (binOp .eql 33 (.slice p n c) (.slice none 0 0)).run Try.prog w = .ok (.bool p.isNone) w := by
  have h : Try.prog.underlying 33 = some (.slice 119) := Try.und33
  have := run_equal_slice_nil w 33 119 p n c h
  simp [binOp, go_sem, this]
def RetCrds (w : World) (l : List Crd) (e : Ending) (w' : World) : Prop := ∃ v, e = .returned v ∧ OwnRows cellsK 7 119 w' w.heap.size v l ∧ Below w.heap.size w w'

set_option maxRecDepth 20000 in
set_option maxHeartbeats 1000000 in
theorem cloneK_any (p : Option Addr) (n c : Nat) (l : List Crd) (w : World) (hl : CrdsAt w p n l) (hn : n ≤ 1000) :
    Calls Try.prog 90 #[.slice p n c] w (RetCrds w l) := by
  have HL := hid (crds_iff.1 hl)
  clear hl
  cases p with
  | none =>
    have hn0 : n = 0 := by
      refine Classical.byContradiction fun h => ?_
      obtain ⟨_, _, b, off, h1, _⟩ := HL.out.at (i := 0) (by omega)
      cases h1
    have hl0 : l = [] := List.length_eq_zero_iff.1 (by rw [← HL.out.1, hn0])
    subst hn0
    subst hl0
    have heq := fun w => eqnil33 none 0 c w
    go_enter Try.func90, Try.ntmps90
    go_wp2
    go_ret
    exact ⟨_, rfl, ownRows_nil _ _ _ _ _, Below.refl _ _⟩
  | some ad =>
    have heq := fun w => eqnil33 (some ad) n c w
    go_enter Try.func90, Try.ntmps90
    have HOWN : Hid (OwnRows cellsK 7 119 (w.alloc (.cells #[] 119)) w.heap.size (.slice (some ⟨w.heap.size, 0, none⟩) 0 0) []) := World.ownsRow_lit w #[] 0 (Nat.le_refl _) (by decide) rfl
    have HLA := hid (HL.out.below ((Below.refl _ _).alloc (Nat.le_refl _) (.cells #[] 119)))
    go_wp2_with (at_builtin; refine append_rows cellsK_len (by decide) cellsK_one 33 119 _ 56 (by decide) Try.info119 rfl Try.und33 (by rfl) (.tmp 5) (.tmp 6) (by rfl) w.heap.size _ [] ad n c l HOWN.out (by rfl) (by rfl) HLA.out (by simp) (by omega) (by simp) ?_; intro v' w' ho' hb' _)
    go_ret
    exact ⟨_, rfl, ho', ((Below.refl _ _).alloc (Nat.le_refl _) _).trans hb'⟩

/-- The range of a number in some truths, from a first range on. -/
def wideT (f : Tru → Int) (r : Rng) (l : List Tru) : Rng := l.foldl (fun r t => widerR r (f t)) r
def boundR (f : Tru → Int) (l : List Tru) : Rng := match l with
  | t :: _ => wideT f ⟨f t, f t⟩ l
  | [] => ⟨0, 0⟩
theorem wideT_snoc {f : Tru → Int} {r : Rng} {l : List Tru} {k : Nat} {t : Tru} (h : l[k]? = some t) : wideT f r (l.take (k + 1)) = widerR (wideT f r (l.take k)) (f t) := by
  unfold wideT
  rw [List.take_add_one, h, List.foldl_append]
  rfl
def bndS (s : Sto) : Sto := ⟨s.wide, s.high, s.fall, boundR (·.a) (truthL s), boundR (·.b) (truthL s), boundR (·.half) (truthL s), boundR (·.peak) (truthL s), s.cards⟩
def zeroS : Sto := ⟨0, 0, 0, ⟨0, 0⟩, ⟨0, 0⟩, ⟨0, 0⟩, ⟨0, 0⟩, []⟩
def boundS (s : Sto) : Sto := if sureE s true = 0 then bndS s else zeroS
def BoundsPost (s : Sto) (w : World) : Ending → World → Prop := fun e w' =>
  ∃ q m d, e = .returned (.tuple #[.agg #[.int .i64 (boundS s).wide, .int .i64 (boundS s).high, .int .i64 (boundS s).fall, .int .i64 (boundS s).a.lo, .int .i64 (boundS s).a.hi, .int .i64 (boundS s).b.lo, .int .i64 (boundS s).b.hi, .int .i64 (boundS s).half.lo, .int .i64 (boundS s).half.hi, .int .i64 (boundS s).peak.lo, .int .i64 (boundS s).peak.hi, .slice q m d], .int .i64 (sureE s true)]) ∧ CrdsAt w' q m (boundS s).cards ∧ Below w.heap.size w w'
theorem BoxIs.put12 {b : Nat} {W : World} {a0 a1 a2 a3 a4 a5 a6 a7 a8 a9 a10 a11 : Value} (h : BoxIs b #[a0, a1, a2, a3, a4, a5, a6, a7, a8, a9, a10, a11] W) (v0 v1 v2 v3 v4 v5 v6 v7 v8 v9 v10 v11 : Value) : BoxIs b #[v0, v1, v2, v3, v4, v5, v6, v7, v8, v9, v10, v11] ((((((((((((W.setCell ⟨b, 0, none⟩ (v0)).setCell ⟨b, 1, none⟩ (v1)).setCell ⟨b, 2, none⟩ (v2)).setCell ⟨b, 3, none⟩ (v3)).setCell ⟨b, 4, none⟩ (v4)).setCell ⟨b, 5, none⟩ (v5)).setCell ⟨b, 6, none⟩ (v6)).setCell ⟨b, 7, none⟩ (v7)).setCell ⟨b, 8, none⟩ (v8)).setCell ⟨b, 9, none⟩ (v9)).setCell ⟨b, 10, none⟩ (v10)).setCell ⟨b, 11, none⟩ (v11)) := by
  have h : BoxIs b #[v0, a1, a2, a3, a4, a5, a6, a7, a8, a9, a10, a11] (W.setCell ⟨b, 0, none⟩ (v0)) := h.put (j := 0) v0
  have h : BoxIs b #[v0, v1, a2, a3, a4, a5, a6, a7, a8, a9, a10, a11] ((W.setCell ⟨b, 0, none⟩ (v0)).setCell ⟨b, 1, none⟩ (v1)) := h.put (j := 1) v1
  have h : BoxIs b #[v0, v1, v2, a3, a4, a5, a6, a7, a8, a9, a10, a11] (((W.setCell ⟨b, 0, none⟩ (v0)).setCell ⟨b, 1, none⟩ (v1)).setCell ⟨b, 2, none⟩ (v2)) := h.put (j := 2) v2
  have h : BoxIs b #[v0, v1, v2, v3, a4, a5, a6, a7, a8, a9, a10, a11] ((((W.setCell ⟨b, 0, none⟩ (v0)).setCell ⟨b, 1, none⟩ (v1)).setCell ⟨b, 2, none⟩ (v2)).setCell ⟨b, 3, none⟩ (v3)) := h.put (j := 3) v3
  have h : BoxIs b #[v0, v1, v2, v3, v4, a5, a6, a7, a8, a9, a10, a11] (((((W.setCell ⟨b, 0, none⟩ (v0)).setCell ⟨b, 1, none⟩ (v1)).setCell ⟨b, 2, none⟩ (v2)).setCell ⟨b, 3, none⟩ (v3)).setCell ⟨b, 4, none⟩ (v4)) := h.put (j := 4) v4
  have h : BoxIs b #[v0, v1, v2, v3, v4, v5, a6, a7, a8, a9, a10, a11] ((((((W.setCell ⟨b, 0, none⟩ (v0)).setCell ⟨b, 1, none⟩ (v1)).setCell ⟨b, 2, none⟩ (v2)).setCell ⟨b, 3, none⟩ (v3)).setCell ⟨b, 4, none⟩ (v4)).setCell ⟨b, 5, none⟩ (v5)) := h.put (j := 5) v5
  have h : BoxIs b #[v0, v1, v2, v3, v4, v5, v6, a7, a8, a9, a10, a11] (((((((W.setCell ⟨b, 0, none⟩ (v0)).setCell ⟨b, 1, none⟩ (v1)).setCell ⟨b, 2, none⟩ (v2)).setCell ⟨b, 3, none⟩ (v3)).setCell ⟨b, 4, none⟩ (v4)).setCell ⟨b, 5, none⟩ (v5)).setCell ⟨b, 6, none⟩ (v6)) := h.put (j := 6) v6
  have h : BoxIs b #[v0, v1, v2, v3, v4, v5, v6, v7, a8, a9, a10, a11] ((((((((W.setCell ⟨b, 0, none⟩ (v0)).setCell ⟨b, 1, none⟩ (v1)).setCell ⟨b, 2, none⟩ (v2)).setCell ⟨b, 3, none⟩ (v3)).setCell ⟨b, 4, none⟩ (v4)).setCell ⟨b, 5, none⟩ (v5)).setCell ⟨b, 6, none⟩ (v6)).setCell ⟨b, 7, none⟩ (v7)) := h.put (j := 7) v7
  have h : BoxIs b #[v0, v1, v2, v3, v4, v5, v6, v7, v8, a9, a10, a11] (((((((((W.setCell ⟨b, 0, none⟩ (v0)).setCell ⟨b, 1, none⟩ (v1)).setCell ⟨b, 2, none⟩ (v2)).setCell ⟨b, 3, none⟩ (v3)).setCell ⟨b, 4, none⟩ (v4)).setCell ⟨b, 5, none⟩ (v5)).setCell ⟨b, 6, none⟩ (v6)).setCell ⟨b, 7, none⟩ (v7)).setCell ⟨b, 8, none⟩ (v8)) := h.put (j := 8) v8
  have h : BoxIs b #[v0, v1, v2, v3, v4, v5, v6, v7, v8, v9, a10, a11] ((((((((((W.setCell ⟨b, 0, none⟩ (v0)).setCell ⟨b, 1, none⟩ (v1)).setCell ⟨b, 2, none⟩ (v2)).setCell ⟨b, 3, none⟩ (v3)).setCell ⟨b, 4, none⟩ (v4)).setCell ⟨b, 5, none⟩ (v5)).setCell ⟨b, 6, none⟩ (v6)).setCell ⟨b, 7, none⟩ (v7)).setCell ⟨b, 8, none⟩ (v8)).setCell ⟨b, 9, none⟩ (v9)) := h.put (j := 9) v9
  have h : BoxIs b #[v0, v1, v2, v3, v4, v5, v6, v7, v8, v9, v10, a11] (((((((((((W.setCell ⟨b, 0, none⟩ (v0)).setCell ⟨b, 1, none⟩ (v1)).setCell ⟨b, 2, none⟩ (v2)).setCell ⟨b, 3, none⟩ (v3)).setCell ⟨b, 4, none⟩ (v4)).setCell ⟨b, 5, none⟩ (v5)).setCell ⟨b, 6, none⟩ (v6)).setCell ⟨b, 7, none⟩ (v7)).setCell ⟨b, 8, none⟩ (v8)).setCell ⟨b, 9, none⟩ (v9)).setCell ⟨b, 10, none⟩ (v10)) := h.put (j := 10) v10
  have h : BoxIs b #[v0, v1, v2, v3, v4, v5, v6, v7, v8, v9, v10, v11] ((((((((((((W.setCell ⟨b, 0, none⟩ (v0)).setCell ⟨b, 1, none⟩ (v1)).setCell ⟨b, 2, none⟩ (v2)).setCell ⟨b, 3, none⟩ (v3)).setCell ⟨b, 4, none⟩ (v4)).setCell ⟨b, 5, none⟩ (v5)).setCell ⟨b, 6, none⟩ (v6)).setCell ⟨b, 7, none⟩ (v7)).setCell ⟨b, 8, none⟩ (v8)).setCell ⟨b, 9, none⟩ (v9)).setCell ⟨b, 10, none⟩ (v10)).setCell ⟨b, 11, none⟩ (v11)) := h.put (j := 11) v11
  exact h
theorem below_put12 {B b : Nat} {w W : World} (h : Below B w W) (hb : B ≤ b) (v0 v1 v2 v3 v4 v5 v6 v7 v8 v9 v10 v11 : Value) : Below B w ((((((((((((W.setCell ⟨b, 0, none⟩ (v0)).setCell ⟨b, 1, none⟩ (v1)).setCell ⟨b, 2, none⟩ (v2)).setCell ⟨b, 3, none⟩ (v3)).setCell ⟨b, 4, none⟩ (v4)).setCell ⟨b, 5, none⟩ (v5)).setCell ⟨b, 6, none⟩ (v6)).setCell ⟨b, 7, none⟩ (v7)).setCell ⟨b, 8, none⟩ (v8)).setCell ⟨b, 9, none⟩ (v9)).setCell ⟨b, 10, none⟩ (v10)).setCell ⟨b, 11, none⟩ (v11)) := by
  have h : Below B w (W.setCell ⟨b, 0, none⟩ (v0)) := h.setCell (p := ⟨b, 0, none⟩) hb v0
  have h : Below B w ((W.setCell ⟨b, 0, none⟩ (v0)).setCell ⟨b, 1, none⟩ (v1)) := h.setCell (p := ⟨b, 1, none⟩) hb v1
  have h : Below B w (((W.setCell ⟨b, 0, none⟩ (v0)).setCell ⟨b, 1, none⟩ (v1)).setCell ⟨b, 2, none⟩ (v2)) := h.setCell (p := ⟨b, 2, none⟩) hb v2
  have h : Below B w ((((W.setCell ⟨b, 0, none⟩ (v0)).setCell ⟨b, 1, none⟩ (v1)).setCell ⟨b, 2, none⟩ (v2)).setCell ⟨b, 3, none⟩ (v3)) := h.setCell (p := ⟨b, 3, none⟩) hb v3
  have h : Below B w (((((W.setCell ⟨b, 0, none⟩ (v0)).setCell ⟨b, 1, none⟩ (v1)).setCell ⟨b, 2, none⟩ (v2)).setCell ⟨b, 3, none⟩ (v3)).setCell ⟨b, 4, none⟩ (v4)) := h.setCell (p := ⟨b, 4, none⟩) hb v4
  have h : Below B w ((((((W.setCell ⟨b, 0, none⟩ (v0)).setCell ⟨b, 1, none⟩ (v1)).setCell ⟨b, 2, none⟩ (v2)).setCell ⟨b, 3, none⟩ (v3)).setCell ⟨b, 4, none⟩ (v4)).setCell ⟨b, 5, none⟩ (v5)) := h.setCell (p := ⟨b, 5, none⟩) hb v5
  have h : Below B w (((((((W.setCell ⟨b, 0, none⟩ (v0)).setCell ⟨b, 1, none⟩ (v1)).setCell ⟨b, 2, none⟩ (v2)).setCell ⟨b, 3, none⟩ (v3)).setCell ⟨b, 4, none⟩ (v4)).setCell ⟨b, 5, none⟩ (v5)).setCell ⟨b, 6, none⟩ (v6)) := h.setCell (p := ⟨b, 6, none⟩) hb v6
  have h : Below B w ((((((((W.setCell ⟨b, 0, none⟩ (v0)).setCell ⟨b, 1, none⟩ (v1)).setCell ⟨b, 2, none⟩ (v2)).setCell ⟨b, 3, none⟩ (v3)).setCell ⟨b, 4, none⟩ (v4)).setCell ⟨b, 5, none⟩ (v5)).setCell ⟨b, 6, none⟩ (v6)).setCell ⟨b, 7, none⟩ (v7)) := h.setCell (p := ⟨b, 7, none⟩) hb v7
  have h : Below B w (((((((((W.setCell ⟨b, 0, none⟩ (v0)).setCell ⟨b, 1, none⟩ (v1)).setCell ⟨b, 2, none⟩ (v2)).setCell ⟨b, 3, none⟩ (v3)).setCell ⟨b, 4, none⟩ (v4)).setCell ⟨b, 5, none⟩ (v5)).setCell ⟨b, 6, none⟩ (v6)).setCell ⟨b, 7, none⟩ (v7)).setCell ⟨b, 8, none⟩ (v8)) := h.setCell (p := ⟨b, 8, none⟩) hb v8
  have h : Below B w ((((((((((W.setCell ⟨b, 0, none⟩ (v0)).setCell ⟨b, 1, none⟩ (v1)).setCell ⟨b, 2, none⟩ (v2)).setCell ⟨b, 3, none⟩ (v3)).setCell ⟨b, 4, none⟩ (v4)).setCell ⟨b, 5, none⟩ (v5)).setCell ⟨b, 6, none⟩ (v6)).setCell ⟨b, 7, none⟩ (v7)).setCell ⟨b, 8, none⟩ (v8)).setCell ⟨b, 9, none⟩ (v9)) := h.setCell (p := ⟨b, 9, none⟩) hb v9
  have h : Below B w (((((((((((W.setCell ⟨b, 0, none⟩ (v0)).setCell ⟨b, 1, none⟩ (v1)).setCell ⟨b, 2, none⟩ (v2)).setCell ⟨b, 3, none⟩ (v3)).setCell ⟨b, 4, none⟩ (v4)).setCell ⟨b, 5, none⟩ (v5)).setCell ⟨b, 6, none⟩ (v6)).setCell ⟨b, 7, none⟩ (v7)).setCell ⟨b, 8, none⟩ (v8)).setCell ⟨b, 9, none⟩ (v9)).setCell ⟨b, 10, none⟩ (v10)) := h.setCell (p := ⟨b, 10, none⟩) hb v10
  have h : Below B w ((((((((((((W.setCell ⟨b, 0, none⟩ (v0)).setCell ⟨b, 1, none⟩ (v1)).setCell ⟨b, 2, none⟩ (v2)).setCell ⟨b, 3, none⟩ (v3)).setCell ⟨b, 4, none⟩ (v4)).setCell ⟨b, 5, none⟩ (v5)).setCell ⟨b, 6, none⟩ (v6)).setCell ⟨b, 7, none⟩ (v7)).setCell ⟨b, 8, none⟩ (v8)).setCell ⟨b, 9, none⟩ (v9)).setCell ⟨b, 10, none⟩ (v10)).setCell ⟨b, 11, none⟩ (v11)) := h.setCell (p := ⟨b, 11, none⟩) hb v11
  exact h
theorem near_put12 {S : Nat → Prop} {b : Nat} {w W : World} (h : Near S w W) (hb : S b) (v0 v1 v2 v3 v4 v5 v6 v7 v8 v9 v10 v11 : Value) : Near S w ((((((((((((W.setCell ⟨b, 0, none⟩ (v0)).setCell ⟨b, 1, none⟩ (v1)).setCell ⟨b, 2, none⟩ (v2)).setCell ⟨b, 3, none⟩ (v3)).setCell ⟨b, 4, none⟩ (v4)).setCell ⟨b, 5, none⟩ (v5)).setCell ⟨b, 6, none⟩ (v6)).setCell ⟨b, 7, none⟩ (v7)).setCell ⟨b, 8, none⟩ (v8)).setCell ⟨b, 9, none⟩ (v9)).setCell ⟨b, 10, none⟩ (v10)).setCell ⟨b, 11, none⟩ (v11)) := by
  have h : Near S w (W.setCell ⟨b, 0, none⟩ (v0)) := h.setCell (p := ⟨b, 0, none⟩) (fun _ => hb) v0
  have h : Near S w ((W.setCell ⟨b, 0, none⟩ (v0)).setCell ⟨b, 1, none⟩ (v1)) := h.setCell (p := ⟨b, 1, none⟩) (fun _ => hb) v1
  have h : Near S w (((W.setCell ⟨b, 0, none⟩ (v0)).setCell ⟨b, 1, none⟩ (v1)).setCell ⟨b, 2, none⟩ (v2)) := h.setCell (p := ⟨b, 2, none⟩) (fun _ => hb) v2
  have h : Near S w ((((W.setCell ⟨b, 0, none⟩ (v0)).setCell ⟨b, 1, none⟩ (v1)).setCell ⟨b, 2, none⟩ (v2)).setCell ⟨b, 3, none⟩ (v3)) := h.setCell (p := ⟨b, 3, none⟩) (fun _ => hb) v3
  have h : Near S w (((((W.setCell ⟨b, 0, none⟩ (v0)).setCell ⟨b, 1, none⟩ (v1)).setCell ⟨b, 2, none⟩ (v2)).setCell ⟨b, 3, none⟩ (v3)).setCell ⟨b, 4, none⟩ (v4)) := h.setCell (p := ⟨b, 4, none⟩) (fun _ => hb) v4
  have h : Near S w ((((((W.setCell ⟨b, 0, none⟩ (v0)).setCell ⟨b, 1, none⟩ (v1)).setCell ⟨b, 2, none⟩ (v2)).setCell ⟨b, 3, none⟩ (v3)).setCell ⟨b, 4, none⟩ (v4)).setCell ⟨b, 5, none⟩ (v5)) := h.setCell (p := ⟨b, 5, none⟩) (fun _ => hb) v5
  have h : Near S w (((((((W.setCell ⟨b, 0, none⟩ (v0)).setCell ⟨b, 1, none⟩ (v1)).setCell ⟨b, 2, none⟩ (v2)).setCell ⟨b, 3, none⟩ (v3)).setCell ⟨b, 4, none⟩ (v4)).setCell ⟨b, 5, none⟩ (v5)).setCell ⟨b, 6, none⟩ (v6)) := h.setCell (p := ⟨b, 6, none⟩) (fun _ => hb) v6
  have h : Near S w ((((((((W.setCell ⟨b, 0, none⟩ (v0)).setCell ⟨b, 1, none⟩ (v1)).setCell ⟨b, 2, none⟩ (v2)).setCell ⟨b, 3, none⟩ (v3)).setCell ⟨b, 4, none⟩ (v4)).setCell ⟨b, 5, none⟩ (v5)).setCell ⟨b, 6, none⟩ (v6)).setCell ⟨b, 7, none⟩ (v7)) := h.setCell (p := ⟨b, 7, none⟩) (fun _ => hb) v7
  have h : Near S w (((((((((W.setCell ⟨b, 0, none⟩ (v0)).setCell ⟨b, 1, none⟩ (v1)).setCell ⟨b, 2, none⟩ (v2)).setCell ⟨b, 3, none⟩ (v3)).setCell ⟨b, 4, none⟩ (v4)).setCell ⟨b, 5, none⟩ (v5)).setCell ⟨b, 6, none⟩ (v6)).setCell ⟨b, 7, none⟩ (v7)).setCell ⟨b, 8, none⟩ (v8)) := h.setCell (p := ⟨b, 8, none⟩) (fun _ => hb) v8
  have h : Near S w ((((((((((W.setCell ⟨b, 0, none⟩ (v0)).setCell ⟨b, 1, none⟩ (v1)).setCell ⟨b, 2, none⟩ (v2)).setCell ⟨b, 3, none⟩ (v3)).setCell ⟨b, 4, none⟩ (v4)).setCell ⟨b, 5, none⟩ (v5)).setCell ⟨b, 6, none⟩ (v6)).setCell ⟨b, 7, none⟩ (v7)).setCell ⟨b, 8, none⟩ (v8)).setCell ⟨b, 9, none⟩ (v9)) := h.setCell (p := ⟨b, 9, none⟩) (fun _ => hb) v9
  have h : Near S w (((((((((((W.setCell ⟨b, 0, none⟩ (v0)).setCell ⟨b, 1, none⟩ (v1)).setCell ⟨b, 2, none⟩ (v2)).setCell ⟨b, 3, none⟩ (v3)).setCell ⟨b, 4, none⟩ (v4)).setCell ⟨b, 5, none⟩ (v5)).setCell ⟨b, 6, none⟩ (v6)).setCell ⟨b, 7, none⟩ (v7)).setCell ⟨b, 8, none⟩ (v8)).setCell ⟨b, 9, none⟩ (v9)).setCell ⟨b, 10, none⟩ (v10)) := h.setCell (p := ⟨b, 10, none⟩) (fun _ => hb) v10
  have h : Near S w ((((((((((((W.setCell ⟨b, 0, none⟩ (v0)).setCell ⟨b, 1, none⟩ (v1)).setCell ⟨b, 2, none⟩ (v2)).setCell ⟨b, 3, none⟩ (v3)).setCell ⟨b, 4, none⟩ (v4)).setCell ⟨b, 5, none⟩ (v5)).setCell ⟨b, 6, none⟩ (v6)).setCell ⟨b, 7, none⟩ (v7)).setCell ⟨b, 8, none⟩ (v8)).setCell ⟨b, 9, none⟩ (v9)).setCell ⟨b, 10, none⟩ (v10)).setCell ⟨b, 11, none⟩ (v11)) := h.setCell (p := ⟨b, 11, none⟩) (fun _ => hb) v11
  exact h
theorem anything_any (w : World) : Calls Try.prog 77 #[] w fun e w' => e = .returned (.bool true) ∧ Below w.heap.size w w' := by
  go_enter Try.func77, Try.ntmps77
  go_wp2_with fail
  go_ret
  exact ⟨rfl, Below.refl _ _⟩
theorem OwnRows.near {α : Type} {enc : α → List Value} {z : Nat} {T : TypeId} {S : Nat → Prop} {w w' : World} {base : Nat} {v : Value} {l : List α} (h : OwnRows enc z T w base v l) (hn : Near S w w') (hS : ∀ k, S k → k < base) : OwnRows enc z T w' base v l :=
  h.block fun g hg => hn.block _ (h.lt g hg).2 fun hs => by have := (h.lt g hg).1; have := hS g hs; omega

set_option maxRecDepth 40000 in
set_option maxHeartbeats 4000000 in
theorem bounds_any (s : Sto) (p : Option Addr) (n c : Nat) (w : World) (hcs : CrdsAt w p n s.cards) :
    Calls Try.prog 38 #[.agg #[.int .i64 s.wide, .int .i64 s.high, .int .i64 s.fall, .int .i64 s.a.lo, .int .i64 s.a.hi, .int .i64 s.b.lo, .int .i64 s.b.hi, .int .i64 s.half.lo, .int .i64 s.half.hi, .int .i64 s.peak.lo, .int .i64 s.peak.hi, .slice p n c]] w (BoundsPost s w) := by
  have HC := hid hcs
  have HA := hid (fun W (hB : Below w.heap.size w W) => asked77_any s p n c true W (hcs.below hB) (fun _ W' _ => anything_any W'))
  have HV := hid (show boundS s = if sureE s true = 0 then bndS s else zeroS from rfl)
  obtain ⟨W0, hW0⟩ : ∃ W, ((w.alloc (.cells #[.int .i64 s.wide, .int .i64 s.high, .int .i64 s.fall, .int .i64 s.a.lo, .int .i64 s.a.hi, .int .i64 s.b.lo, .int .i64 s.b.hi, .int .i64 s.half.lo, .int .i64 s.half.hi, .int .i64 s.peak.lo, .int .i64 s.peak.hi, .slice p n c] 35)).alloc (.cells #[.int .i64 0, .int .i64 0, .int .i64 0, .int .i64 0, .int .i64 0, .int .i64 0, .int .i64 0, .int .i64 0, .int .i64 0, .int .i64 0, .int .i64 0, .slice none 0 0] 35)) = W := ⟨_, rfl⟩
  have HX : Hid (BoxIs w.heap.size #[.int .i64 s.wide, .int .i64 s.high, .int .i64 s.fall, .int .i64 s.a.lo, .int .i64 s.a.hi, .int .i64 s.b.lo, .int .i64 s.b.hi, .int .i64 s.half.lo, .int .i64 s.half.hi, .int .i64 s.peak.lo, .int .i64 s.peak.hi, .slice p n c] W0) := by show BoxIs _ _ _; rw [← hW0]; exact (BoxIs.start w #[.int .i64 s.wide, .int .i64 s.high, .int .i64 s.fall, .int .i64 s.a.lo, .int .i64 s.a.hi, .int .i64 s.b.lo, .int .i64 s.b.hi, .int .i64 s.half.lo, .int .i64 s.half.hi, .int .i64 s.peak.lo, .int .i64 s.peak.hi, .slice p n c] 35).below ((Below.refl _ _).alloc (Nat.le_refl _) _)
  have HZ : Hid (BoxIs (w.heap.size + 1) #[.int .i64 0, .int .i64 0, .int .i64 0, .int .i64 0, .int .i64 0, .int .i64 0, .int .i64 0, .int .i64 0, .int .i64 0, .int .i64 0, .int .i64 0, .slice none 0 0] W0) := by
    show BoxIs _ _ _
    have h := BoxIs.start (w.alloc (.cells #[.int .i64 s.wide, .int .i64 s.high, .int .i64 s.fall, .int .i64 s.a.lo, .int .i64 s.a.hi, .int .i64 s.b.lo, .int .i64 s.b.hi, .int .i64 s.half.lo, .int .i64 s.half.hi, .int .i64 s.peak.lo, .int .i64 s.peak.hi, .slice p n c] 35)) #[.int .i64 0, .int .i64 0, .int .i64 0, .int .i64 0, .int .i64 0, .int .i64 0, .int .i64 0, .int .i64 0, .int .i64 0, .int .i64 0, .int .i64 0, .slice none 0 0] 35
    rw [World.size_alloc, hW0] at h
    exact h
  have HB0 : Hid (Below w.heap.size w W0) := by show Below _ _ _; rw [← hW0]; exact ((Below.refl _ _).alloc (Nat.le_refl _) _).alloc (by simp) _
  have HZ0 : Hid (W0.heap.size = w.heap.size + 2) := by show _ = _; rw [← hW0]; simp
  have e0 := (HX.out.2 0 (.int .i64 s.wide) rfl).1
  have e1 := (HX.out.2 1 (.int .i64 s.high) rfl).1
  have e2 := (HX.out.2 2 (.int .i64 s.fall) rfl).1
  have e3 := (HX.out.2 3 (.int .i64 s.a.lo) rfl).1
  have e4 := (HX.out.2 4 (.int .i64 s.a.hi) rfl).1
  have e5 := (HX.out.2 5 (.int .i64 s.b.lo) rfl).1
  have e6 := (HX.out.2 6 (.int .i64 s.b.hi) rfl).1
  have e7 := (HX.out.2 7 (.int .i64 s.half.lo) rfl).1
  have e8 := (HX.out.2 8 (.int .i64 s.half.hi) rfl).1
  have e9 := (HX.out.2 9 (.int .i64 s.peak.lo) rfl).1
  have e10 := (HX.out.2 10 (.int .i64 s.peak.hi) rfl).1
  have e11 := (HX.out.2 11 (.slice p n c) rfl).1
  go_enter Try.func38, Try.ntmps38
  go_wp2_with fail
  refine (HA.out _ HB0.out).mono ?_
  rintro e w1 ⟨pw, v, rfl, hown, hb⟩
  have HX0 := hid (HX.out.below hb)
  have HZB := hid (HZ.out.below hb)
  have HB := hid (HB0.out.trans (hb.mono HB0.out.size))
  have HO := hid hown
  have HZ1 : Hid (w.heap.size + 2 ≤ w1.heap.size) := hid (by have := hb.size; have := HZ0.out; omega)
  obtain ⟨p', c', rfl, _⟩ := hown.slice cellsT_len
  clear hown hb hW0 e0 e1 e2 e3 e4 e5 e6 e7 e8 e9 e10 e11
  by_cases hE : sureE s true = 0
  · obtain ⟨ok, _, hne⟩ := sure_ok hE
    have HOK := hid ok
    have HBa : Hid ((boundS s).a = boundR (·.a) (truthL s)) := by show _ = _; rw [HV.out, if_pos hE]; rfl
    have HBb : Hid ((boundS s).b = boundR (·.b) (truthL s)) := by show _ = _; rw [HV.out, if_pos hE]; rfl
    have HBhalf : Hid ((boundS s).half = boundR (·.half) (truthL s)) := by show _ = _; rw [HV.out, if_pos hE]; rfl
    have HBpeak : Hid ((boundS s).peak = boundR (·.peak) (truthL s)) := by show _ = _; rw [HV.out, if_pos hE]; rfl
    have HVV : Hid (boundS s = bndS s) := by show _ = _; rw [HV.out, if_pos hE]
    have hlen := truth_len ok
    have hl : sureL s true = truthL s := by rw [sureL, if_pos hE]
    rw [hl] at HO ⊢
    rw [hE]
    have HE := hid hE
    obtain ⟨L, hL⟩ : ∃ L, truthL s = L := ⟨_, rfl⟩
    rw [hL] at HO HBa HBb HBhalf HBpeak hlen hne ⊢
    obtain ⟨N, hN⟩ : ∃ N, L.length = N := ⟨_, rfl⟩
    rw [hN] at hlen ⊢
    have hN0 : 0 < N := by rw [← hN]; exact List.length_pos_iff.2 hne
    have HN := hid hN
    clear hE ok hl HV hL hN hne
    obtain ⟨p', c', e2, hrow⟩ := HO.out.slice cellsT_len
    cases e2
    obtain ⟨t0, ht0, b1, o1, rfl, hlt1, hc⟩ := hrow.at (i := 0) (by rw [HN.out]; exact hN0)
    have c0 : w1.cell? ⟨b1, o1, none⟩ = some (.int .i64 t0.a) := by have := hc 0 _ rfl; simpa using this
    have c1 : w1.cell? ⟨b1, o1 + 1, none⟩ = some (.int .i64 t0.b) := by have := hc 1 _ rfl; simpa using this
    have c2 : w1.cell? ⟨b1, o1 + 2, none⟩ = some (.int .i64 t0.half) := by have := hc 2 _ rfl; simpa using this
    have c3 : w1.cell? ⟨b1, o1 + 3, none⟩ = some (.int .i64 t0.peak) := by have := hc 3 _ rfl; simpa using this
    have HF0 : Hid (∀ f, boundR f L = wideT f ⟨f t0, f t0⟩ L) := by
      intro f
      cases L with
      | nil => simp at ht0
      | cons a r => simp at ht0; rw [ht0]; rfl
    rw [HF0.out] at HBa
    rw [HF0.out] at HBb
    rw [HF0.out] at HBhalf
    rw [HF0.out] at HBpeak
    clear ht0 hc hrow
    obtain ⟨w2, hW2⟩ : ∃ V, w1.alloc (.cells #[.int .i64 t0.a, .int .i64 t0.b, .int .i64 t0.half, .int .i64 t0.peak] 94) = V := ⟨_, rfl⟩
    have hba : Below w1.heap.size w1 w2 := by rw [← hW2]; exact (Below.refl _ _).alloc (Nat.le_refl _) _
    have HT2 : Hid (TruAt w2 w1.heap.size t0) := by show TruAt _ _ _; rw [← hW2]; exact TruAt.of (cell_box w1 _ 94)
    have HN2 : Hid (Near (fun k => k = w.heap.size) w1 w2) := hid ((near_below hba).mono (fun _ _ h => h.elim))
    have HX0 := hid (HX0.out.below hba)
    clear hba
    go_upto_region 5 with fail
    clear hW2 c0 c1 c2 c3
    have HX0 := hid (HX0.out.below (Below.refl _ _).drew)
    have HT2 := hid (HT2.out.below (Below.refl _ _).drew); have HN2 := hid HN2.out.drew
    refine wp_region_held_drew (S := fun V => TruAt V w1.heap.size t0 ∧ Near (fun k => k = w.heap.size) w1 V) (by kernel_rfl) (⟨HT2.out, HN2.out⟩) (fun hS => ?_)
    simp only [List.size_toArray, List.length_cons, List.length_nil, Nat.reduceAdd, Array.replicate_succ, Array.replicate_zero, List.push_toArray, List.nil_append, List.cons_append]
    generalize w2.drew = V0 at HX0 hS ⊢
    clear HT2 HN2
    refine tkH (i := 0) (v := ?_) (fun V hV => ?_) ?_
    rotate_left
    · go_simp
      try with_reducible rfl
    try simp only [Act.put, List.getElem_toArray, List.getElem_cons_zero, List.setIfInBounds_toArray, List.set_cons_zero, List.set_cons_succ]
    refine tkH (i := 1) (v := ?_) (fun V hV => ?_) ?_
    rotate_left
    · have e0 := (hV.1).c0; have e1 := (hV.1).c1; have e2 := (hV.1).c2; have e3 := (hV.1).c3; go_simp
      try with_reducible rfl
    try simp only [Act.put, List.getElem_toArray, List.getElem_cons_zero, List.getElem_cons_succ, List.setIfInBounds_toArray, List.set_cons_zero, List.set_cons_succ]
    refine tkH (i := 2) (v := ?_) (fun V hV => ?_) ?_
    rotate_left
    · go_simp
      try with_reducible rfl
    try simp only [Act.put, List.getElem_toArray, List.getElem_cons_zero, List.getElem_cons_succ, List.setIfInBounds_toArray, List.set_cons_zero, List.set_cons_succ]
    refine tkH (i := 3) (v := ?_) (fun V hV => ?_) ?_
    rotate_left
    · have e0 := (hV.1).c0; have e1 := (hV.1).c1; have e2 := (hV.1).c2; have e3 := (hV.1).c3; go_simp
      try with_reducible rfl
    try simp only [Act.put, List.getElem_toArray, List.getElem_cons_zero, List.getElem_cons_succ, List.setIfInBounds_toArray, List.set_cons_zero, List.set_cons_succ]
    refine tkH (i := 4) (v := ?_) (fun V hV => ?_) ?_
    rotate_left
    · go_simp
      try with_reducible rfl
    try simp only [Act.put, List.getElem_toArray, List.getElem_cons_zero, List.getElem_cons_succ, List.setIfInBounds_toArray, List.set_cons_zero, List.set_cons_succ]
    refine tkH (i := 5) (v := ?_) (fun V hV => ?_) ?_
    rotate_left
    · go_simp
      try with_reducible rfl
    try simp only [Act.put, List.getElem_toArray, List.getElem_cons_zero, List.getElem_cons_succ, List.setIfInBounds_toArray, List.set_cons_zero, List.set_cons_succ]
    refine tkH (i := 6) (v := ?_) (fun V hV => ?_) ?_
    rotate_left
    · have e0 := (hV.1).c0; have e1 := (hV.1).c1; have e2 := (hV.1).c2; have e3 := (hV.1).c3; go_simp
      try with_reducible rfl
    try simp only [Act.put, List.getElem_toArray, List.getElem_cons_zero, List.getElem_cons_succ, List.setIfInBounds_toArray, List.set_cons_zero, List.set_cons_succ]
    refine tkH (i := 7) (v := ?_) (fun V hV => ?_) ?_
    rotate_left
    · go_simp
      try with_reducible rfl
    try simp only [Act.put, List.getElem_toArray, List.getElem_cons_zero, List.getElem_cons_succ, List.setIfInBounds_toArray, List.set_cons_zero, List.set_cons_succ]
    refine tkH (i := 8) (v := ?_) (fun V hV => ?_) ?_
    rotate_left
    · have e0 := (hV.1).c0; have e1 := (hV.1).c1; have e2 := (hV.1).c2; have e3 := (hV.1).c3; go_simp
      try with_reducible rfl
    try simp only [Act.put, List.getElem_toArray, List.getElem_cons_zero, List.getElem_cons_succ, List.setIfInBounds_toArray, List.set_cons_zero, List.set_cons_succ]
    refine tkH (i := 9) (v := ?_) (fun V hV => ?_) ?_
    rotate_left
    · go_simp
      try with_reducible rfl
    try simp only [Act.put, List.getElem_toArray, List.getElem_cons_zero, List.getElem_cons_succ, List.setIfInBounds_toArray, List.set_cons_zero, List.set_cons_succ]
    refine tkH (i := 10) (v := ?_) (fun V hV => ?_) ?_
    rotate_left
    · go_simp
      try with_reducible rfl
    try simp only [Act.put, List.getElem_toArray, List.getElem_cons_zero, List.getElem_cons_succ, List.setIfInBounds_toArray, List.set_cons_zero, List.set_cons_succ]
    refine tkH (i := 11) (v := ?_) (fun V hV => ?_) ?_
    rotate_left
    · have e0 := (hV.1).c0; have e1 := (hV.1).c1; have e2 := (hV.1).c2; have e3 := (hV.1).c3; go_simp
      try with_reducible rfl
    try simp only [Act.put, List.getElem_toArray, List.getElem_cons_zero, List.getElem_cons_succ, List.setIfInBounds_toArray, List.set_cons_zero, List.set_cons_succ]
    refine tkH (i := 12) (v := ?_) (fun V hV => ?_) ?_
    rotate_left
    · go_simp
      try with_reducible rfl
    try simp only [Act.put, List.getElem_toArray, List.getElem_cons_zero, List.getElem_cons_succ, List.setIfInBounds_toArray, List.set_cons_zero, List.set_cons_succ]
    refine tkH (i := 13) (v := ?_) (fun V hV => ?_) ?_
    rotate_left
    · have e0 := (hV.1).c0; have e1 := (hV.1).c1; have e2 := (hV.1).c2; have e3 := (hV.1).c3; go_simp
      try with_reducible rfl
    try simp only [Act.put, List.getElem_toArray, List.getElem_cons_zero, List.getElem_cons_succ, List.setIfInBounds_toArray, List.set_cons_zero, List.set_cons_succ]
    refine tkH (i := 14) (v := ?_) (fun V hV => ?_) ?_
    rotate_left
    · go_simp
      try with_reducible rfl
    try simp only [Act.put, List.getElem_toArray, List.getElem_cons_zero, List.getElem_cons_succ, List.setIfInBounds_toArray, List.set_cons_zero, List.set_cons_succ]
    refine tkH (i := 15) (v := ?_) (fun V hV => ?_) ?_
    rotate_left
    · go_simp
      try with_reducible rfl
    try simp only [Act.put, List.getElem_toArray, List.getElem_cons_zero, List.getElem_cons_succ, List.setIfInBounds_toArray, List.set_cons_zero, List.set_cons_succ]
    refine tkH (i := 16) (v := ?_) (fun V hV => ?_) ?_
    rotate_left
    · have e0 := (hV.1).c0; have e1 := (hV.1).c1; have e2 := (hV.1).c2; have e3 := (hV.1).c3; go_simp
      try with_reducible rfl
    try simp only [Act.put, List.getElem_toArray, List.getElem_cons_zero, List.getElem_cons_succ, List.setIfInBounds_toArray, List.set_cons_zero, List.set_cons_succ]
    refine tkH (i := 17) (v := ?_) (fun V hV => ?_) ?_
    rotate_left
    · go_simp
      try with_reducible rfl
    try simp only [Act.put, List.getElem_toArray, List.getElem_cons_zero, List.getElem_cons_succ, List.setIfInBounds_toArray, List.set_cons_zero, List.set_cons_succ]
    refine tkH (i := 18) (v := ?_) (fun V hV => ?_) ?_
    rotate_left
    · have e0 := (hV.1).c0; have e1 := (hV.1).c1; have e2 := (hV.1).c2; have e3 := (hV.1).c3; go_simp
      try with_reducible rfl
    try simp only [Act.put, List.getElem_toArray, List.getElem_cons_zero, List.getElem_cons_succ, List.setIfInBounds_toArray, List.set_cons_zero, List.set_cons_succ]
    refine tkH (i := 19) (v := ?_) (fun V hV => ?_) ?_
    rotate_left
    · go_simp
      try with_reducible rfl
    try simp only [Act.put, List.getElem_toArray, List.getElem_cons_zero, List.getElem_cons_succ, List.setIfInBounds_toArray, List.set_cons_zero, List.set_cons_succ]
    refine tkH (i := 20) (v := ?_) (fun V hV => ?_) ?_
    rotate_left
    · go_simp
      try with_reducible rfl
    try simp only [Act.put, List.getElem_toArray, List.getElem_cons_zero, List.getElem_cons_succ, List.setIfInBounds_toArray, List.set_cons_zero, List.set_cons_succ]
    refine wpAnyH_ready (rs := [21]) (by kernel_rfl) (by simp) ?_
    refine AllReadyH.cons (o := _) rfl (fun K hK => ?_) AllReadyH.nil
    have k0 := (HX0.out.2 3 (.int .i64 s.a.lo) rfl).1; have k1 := (HX0.out.2 4 (.int .i64 s.a.hi) rfl).1; have f0 := (HX0.out.2 3 (.int .i64 s.a.lo) rfl).2; have f1 := (HX0.out.2 4 (.int .i64 s.a.hi) rfl).2
    have HX1 : Hid (BoxIs w.heap.size #[.int .i64 s.wide, .int .i64 s.high, .int .i64 s.fall, .int .i64 t0.a, .int .i64 t0.a, .int .i64 s.b.lo, .int .i64 s.b.hi, .int .i64 s.half.lo, .int .i64 s.half.hi, .int .i64 s.peak.lo, .int .i64 s.peak.hi, .slice p n c] ((V0.setCell ⟨w.heap.size, 3, none⟩ (.int .i64 t0.a)).setCell ⟨w.heap.size, 4, none⟩ (.int .i64 t0.a))) := hid ((HX0.out.put (j := 3) (.int .i64 t0.a)).put (j := 4) (.int .i64 t0.a))
    have HS1 : Hid (TruAt ((V0.setCell ⟨w.heap.size, 3, none⟩ (.int .i64 t0.a)).setCell ⟨w.heap.size, 4, none⟩ (.int .i64 t0.a)) w1.heap.size t0 ∧ Near (fun k => k = w.heap.size) w1 ((V0.setCell ⟨w.heap.size, 3, none⟩ (.int .i64 t0.a)).setCell ⟨w.heap.size, 4, none⟩ (.int .i64 t0.a))) := hid ⟨(hS.1.kept (Below.heap_setCell _ _ _ _ (by show w1.heap.size ≠ w.heap.size; have := HZ1.out; omega))).kept (Below.heap_setCell _ _ _ _ (by show w1.heap.size ≠ w.heap.size; have := HZ1.out; omega)), (hS.2.setCell (p := ⟨w.heap.size, 3, none⟩) (fun _ => rfl) _).setCell (p := ⟨w.heap.size, 4, none⟩) (fun _ => rfl) _⟩
    clear hS
    go_simp
    clear k0 k1 f0 f1
    generalize ((V0.setCell ⟨w.heap.size, 3, none⟩ (.int .i64 t0.a)).setCell ⟨w.heap.size, 4, none⟩ (.int .i64 t0.a)) = V1 at HX1 HS1 ⊢
    refine hK.out _ _ (HS1.out) (fun hS => ?_)
    clear hK K
    try simp only [List.setIfInBounds_toArray, List.set_cons_zero, List.set_cons_succ]
    refine tkH (i := 22) (v := ?_) (fun V hV => ?_) ?_
    rotate_left
    · go_simp
      try with_reducible rfl
    try simp only [Act.put, List.getElem_toArray, List.getElem_cons_zero, List.getElem_cons_succ, List.setIfInBounds_toArray, List.set_cons_zero, List.set_cons_succ]
    refine wpAnyH_ready (rs := [23]) (by kernel_rfl) (by simp) ?_
    refine AllReadyH.cons (o := _) rfl (fun K hK => ?_) AllReadyH.nil
    have k0 := (HX1.out.2 5 (.int .i64 s.b.lo) rfl).1; have k1 := (HX1.out.2 6 (.int .i64 s.b.hi) rfl).1; have f0 := (HX1.out.2 5 (.int .i64 s.b.lo) rfl).2; have f1 := (HX1.out.2 6 (.int .i64 s.b.hi) rfl).2
    have HX2 : Hid (BoxIs w.heap.size #[.int .i64 s.wide, .int .i64 s.high, .int .i64 s.fall, .int .i64 t0.a, .int .i64 t0.a, .int .i64 t0.b, .int .i64 t0.b, .int .i64 s.half.lo, .int .i64 s.half.hi, .int .i64 s.peak.lo, .int .i64 s.peak.hi, .slice p n c] ((V1.setCell ⟨w.heap.size, 5, none⟩ (.int .i64 t0.b)).setCell ⟨w.heap.size, 6, none⟩ (.int .i64 t0.b))) := hid ((HX1.out.put (j := 5) (.int .i64 t0.b)).put (j := 6) (.int .i64 t0.b))
    have HS2 : Hid (TruAt ((V1.setCell ⟨w.heap.size, 5, none⟩ (.int .i64 t0.b)).setCell ⟨w.heap.size, 6, none⟩ (.int .i64 t0.b)) w1.heap.size t0 ∧ Near (fun k => k = w.heap.size) w1 ((V1.setCell ⟨w.heap.size, 5, none⟩ (.int .i64 t0.b)).setCell ⟨w.heap.size, 6, none⟩ (.int .i64 t0.b))) := hid ⟨(hS.1.kept (Below.heap_setCell _ _ _ _ (by show w1.heap.size ≠ w.heap.size; have := HZ1.out; omega))).kept (Below.heap_setCell _ _ _ _ (by show w1.heap.size ≠ w.heap.size; have := HZ1.out; omega)), (hS.2.setCell (p := ⟨w.heap.size, 5, none⟩) (fun _ => rfl) _).setCell (p := ⟨w.heap.size, 6, none⟩) (fun _ => rfl) _⟩
    clear hS
    go_simp
    clear k0 k1 f0 f1
    generalize ((V1.setCell ⟨w.heap.size, 5, none⟩ (.int .i64 t0.b)).setCell ⟨w.heap.size, 6, none⟩ (.int .i64 t0.b)) = V2 at HX2 HS2 ⊢
    refine hK.out _ _ (HS2.out) (fun hS => ?_)
    clear hK K
    try simp only [List.setIfInBounds_toArray, List.set_cons_zero, List.set_cons_succ]
    refine tkH (i := 24) (v := ?_) (fun V hV => ?_) ?_
    rotate_left
    · go_simp
      try with_reducible rfl
    try simp only [Act.put, List.getElem_toArray, List.getElem_cons_zero, List.getElem_cons_succ, List.setIfInBounds_toArray, List.set_cons_zero, List.set_cons_succ]
    refine wpAnyH_ready (rs := [25]) (by kernel_rfl) (by simp) ?_
    refine AllReadyH.cons (o := _) rfl (fun K hK => ?_) AllReadyH.nil
    have k0 := (HX2.out.2 7 (.int .i64 s.half.lo) rfl).1; have k1 := (HX2.out.2 8 (.int .i64 s.half.hi) rfl).1; have f0 := (HX2.out.2 7 (.int .i64 s.half.lo) rfl).2; have f1 := (HX2.out.2 8 (.int .i64 s.half.hi) rfl).2
    have HX3 : Hid (BoxIs w.heap.size #[.int .i64 s.wide, .int .i64 s.high, .int .i64 s.fall, .int .i64 t0.a, .int .i64 t0.a, .int .i64 t0.b, .int .i64 t0.b, .int .i64 t0.half, .int .i64 t0.half, .int .i64 s.peak.lo, .int .i64 s.peak.hi, .slice p n c] ((V2.setCell ⟨w.heap.size, 7, none⟩ (.int .i64 t0.half)).setCell ⟨w.heap.size, 8, none⟩ (.int .i64 t0.half))) := hid ((HX2.out.put (j := 7) (.int .i64 t0.half)).put (j := 8) (.int .i64 t0.half))
    have HS3 : Hid (TruAt ((V2.setCell ⟨w.heap.size, 7, none⟩ (.int .i64 t0.half)).setCell ⟨w.heap.size, 8, none⟩ (.int .i64 t0.half)) w1.heap.size t0 ∧ Near (fun k => k = w.heap.size) w1 ((V2.setCell ⟨w.heap.size, 7, none⟩ (.int .i64 t0.half)).setCell ⟨w.heap.size, 8, none⟩ (.int .i64 t0.half))) := hid ⟨(hS.1.kept (Below.heap_setCell _ _ _ _ (by show w1.heap.size ≠ w.heap.size; have := HZ1.out; omega))).kept (Below.heap_setCell _ _ _ _ (by show w1.heap.size ≠ w.heap.size; have := HZ1.out; omega)), (hS.2.setCell (p := ⟨w.heap.size, 7, none⟩) (fun _ => rfl) _).setCell (p := ⟨w.heap.size, 8, none⟩) (fun _ => rfl) _⟩
    clear hS
    go_simp
    clear k0 k1 f0 f1
    generalize ((V2.setCell ⟨w.heap.size, 7, none⟩ (.int .i64 t0.half)).setCell ⟨w.heap.size, 8, none⟩ (.int .i64 t0.half)) = V3 at HX3 HS3 ⊢
    refine hK.out _ _ (HS3.out) (fun hS => ?_)
    clear hK K
    try simp only [List.setIfInBounds_toArray, List.set_cons_zero, List.set_cons_succ]
    refine tkH (i := 26) (v := ?_) (fun V hV => ?_) ?_
    rotate_left
    · go_simp
      try with_reducible rfl
    try simp only [Act.put, List.getElem_toArray, List.getElem_cons_zero, List.getElem_cons_succ, List.setIfInBounds_toArray, List.set_cons_zero, List.set_cons_succ]
    refine wpAnyH_ready (rs := [27]) (by kernel_rfl) (by simp) ?_
    refine AllReadyH.cons (o := _) rfl (fun K hK => ?_) AllReadyH.nil
    have k0 := (HX3.out.2 9 (.int .i64 s.peak.lo) rfl).1; have k1 := (HX3.out.2 10 (.int .i64 s.peak.hi) rfl).1; have f0 := (HX3.out.2 9 (.int .i64 s.peak.lo) rfl).2; have f1 := (HX3.out.2 10 (.int .i64 s.peak.hi) rfl).2
    have HX4 : Hid (BoxIs w.heap.size #[.int .i64 s.wide, .int .i64 s.high, .int .i64 s.fall, .int .i64 t0.a, .int .i64 t0.a, .int .i64 t0.b, .int .i64 t0.b, .int .i64 t0.half, .int .i64 t0.half, .int .i64 t0.peak, .int .i64 t0.peak, .slice p n c] ((V3.setCell ⟨w.heap.size, 9, none⟩ (.int .i64 t0.peak)).setCell ⟨w.heap.size, 10, none⟩ (.int .i64 t0.peak))) := hid ((HX3.out.put (j := 9) (.int .i64 t0.peak)).put (j := 10) (.int .i64 t0.peak))
    have HS4 : Hid (TruAt ((V3.setCell ⟨w.heap.size, 9, none⟩ (.int .i64 t0.peak)).setCell ⟨w.heap.size, 10, none⟩ (.int .i64 t0.peak)) w1.heap.size t0 ∧ Near (fun k => k = w.heap.size) w1 ((V3.setCell ⟨w.heap.size, 9, none⟩ (.int .i64 t0.peak)).setCell ⟨w.heap.size, 10, none⟩ (.int .i64 t0.peak))) := hid ⟨(hS.1.kept (Below.heap_setCell _ _ _ _ (by show w1.heap.size ≠ w.heap.size; have := HZ1.out; omega))).kept (Below.heap_setCell _ _ _ _ (by show w1.heap.size ≠ w.heap.size; have := HZ1.out; omega)), (hS.2.setCell (p := ⟨w.heap.size, 9, none⟩) (fun _ => rfl) _).setCell (p := ⟨w.heap.size, 10, none⟩) (fun _ => rfl) _⟩
    clear hS
    go_simp
    clear k0 k1 f0 f1
    generalize ((V3.setCell ⟨w.heap.size, 9, none⟩ (.int .i64 t0.peak)).setCell ⟨w.heap.size, 10, none⟩ (.int .i64 t0.peak)) = V4 at HX4 HS4 ⊢
    refine hK.out _ _ (HS4.out) (fun hS => ?_)
    clear hK K
    try simp only [List.setIfInBounds_toArray, List.set_cons_zero, List.set_cons_succ]
    refine wpAnyH_done (by kernel_rfl) ?_ _
    have HS5 := hid hS
    clear hS
    go_wp2_with fail
    go_loopw [49] (fun i wr => ∃ k : Nat, k ≤ N ∧ i = .int .i64 k ∧ (∃ ra rb rh rp : Rng, ra = wideT (·.a) ⟨t0.a, t0.a⟩ (L.take k) ∧ rb = wideT (·.b) ⟨t0.b, t0.b⟩ (L.take k) ∧ rh = wideT (·.half) ⟨t0.half, t0.half⟩ (L.take k) ∧ rp = wideT (·.peak) ⟨t0.peak, t0.peak⟩ (L.take k) ∧ BoxIs w.heap.size #[.int .i64 s.wide, .int .i64 s.high, .int .i64 s.fall, .int .i64 ra.lo, .int .i64 ra.hi, .int .i64 rb.lo, .int .i64 rb.hi, .int .i64 rh.lo, .int .i64 rh.hi, .int .i64 rp.lo, .int .i64 rp.hi, .slice p n c] wr) ∧ Near (fun k => k = w.heap.size) w1 wr) (fun i _ => N - (intOf i).toNat)
    case atStart => exact ⟨0, by omega, rfl, ⟨⟨t0.a, t0.a⟩, ⟨t0.b, t0.b⟩, ⟨t0.half, t0.half⟩, ⟨t0.peak, t0.peak⟩, rfl, rfl, rfl, rfl, HX4.out⟩, HS5.out.2⟩
    case round =>
      obtain ⟨k, hk, rfl, ⟨ra, rb, rh, rp, ha, hb, hh, hp, hx⟩, hnr⟩ := hrel
      have HZR : Hid (w.heap.size < wr.heap.size) := hid hx.1
      have HOW := hid (HO.out.near hnr (fun k hk => by have := HZ0.out; omega))
      by_cases hlt : k < N
      · obtain ⟨p', c', e2, hrow⟩ := HOW.out.slice cellsT_len
        cases e2
        obtain ⟨t, ht, b1', o1', e1, hlt1', hc⟩ := hrow.at (i := k) (by rw [HN.out]; exact hlt)
        cases e1
        have c0 : wr.cell? ⟨b1, o1 + k * 4, none⟩ = some (.int .i64 t.a) := hc 0 _ rfl
        have c1 : wr.cell? ⟨b1, o1 + k * 4 + 1, none⟩ = some (.int .i64 t.b) := hc 1 _ rfl
        have c2 : wr.cell? ⟨b1, o1 + k * 4 + 2, none⟩ = some (.int .i64 t.half) := hc 2 _ rfl
        have c3 : wr.cell? ⟨b1, o1 + k * 4 + 3, none⟩ = some (.int .i64 t.peak) := hc 3 _ rfl
        have HSra : Hid (widerR ra t.a = wideT (·.a) ⟨t0.a, t0.a⟩ (L.take (k + 1))) := by show _ = _; rw [wideT_snoc ht, ← ha]
        have HSrb : Hid (widerR rb t.b = wideT (·.b) ⟨t0.b, t0.b⟩ (L.take (k + 1))) := by show _ = _; rw [wideT_snoc ht, ← hb]
        have HSrh : Hid (widerR rh t.half = wideT (·.half) ⟨t0.half, t0.half⟩ (L.take (k + 1))) := by show _ = _; rw [wideT_snoc ht, ← hh]
        have HSrp : Hid (widerR rp t.peak = wideT (·.peak) ⟨t0.peak, t0.peak⟩ (L.take (k + 1))) := by show _ = _; rw [wideT_snoc ht, ← hp]
        clear ht hc hrow ha hb hh hp
        obtain ⟨W5, hW5⟩ : ∃ V, wr.alloc (.cells #[.int .i64 t.a, .int .i64 t.b, .int .i64 t.half, .int .i64 t.peak] 94) = V := ⟨_, rfl⟩
        have hba : Below wr.heap.size wr W5 := by rw [← hW5]; exact (Below.refl _ _).alloc (Nat.le_refl _) _
        have HT5 : Hid (TruAt W5 wr.heap.size t) := by show TruAt _ _ _; rw [← hW5]; exact TruAt.of (cell_box wr _ 94)
        have HY0 : Hid (BoxIs w.heap.size #[.int .i64 s.wide, .int .i64 s.high, .int .i64 s.fall, .int .i64 ra.lo, .int .i64 ra.hi, .int .i64 rb.lo, .int .i64 rb.hi, .int .i64 rh.lo, .int .i64 rh.hi, .int .i64 rp.lo, .int .i64 rp.hi, .slice p n c] W5) := hid (hx.below hba)
        have HN5 : Hid (Near (fun k => k = w.heap.size) w1 W5) := hid (hnr.trans ((near_below hba).mono (fun _ _ h => h.elim)))
        clear hx hnr hba
        go_upto_region 9 with fail
        clear hW5 c0 c1 c2 c3
        have HY0 := hid (HY0.out.below (Below.refl _ _).drew)
        have HT5 := hid (HT5.out.below (Below.refl _ _).drew); have HN5 := hid HN5.out.drew
        refine wp_region_listed (S := fun l V => (TruAt V wr.heap.size t ∧ Near (fun k => k = w.heap.size) w1 V) ∧ (l.getD 21 true = false → BoxIs w.heap.size #[.int .i64 s.wide, .int .i64 s.high, .int .i64 s.fall, .int .i64 ra.lo, .int .i64 ra.hi, .int .i64 rb.lo, .int .i64 rb.hi, .int .i64 rh.lo, .int .i64 rh.hi, .int .i64 rp.lo, .int .i64 rp.hi, .slice p n c] V)) (by kernel_rfl) (⟨⟨HT5.out, HN5.out⟩, fun _ => HY0.out⟩) (fun hS => ?_)
        simp only [List.size_toArray, List.length_cons, List.length_nil, Nat.reduceAdd, Array.replicate_succ, Array.replicate_zero, List.push_toArray, List.nil_append, List.cons_append]
        generalize W5.drew = U0 at HY0 hS ⊢
        clear HT5 HN5
        refine anyL_take [] (i := 0) (v := ?_) rfl (by kernel_rfl) (by kernel_rfl) (by kernel_rfl) (fun _ _ _ h => h) (by kernel_rfl) (by kernel_rfl) (fun _ _ => and_congr Iff.rfl (imp_congr (getD_set_iff (by decide)) Iff.rfl)) (Or.inl ⟨by rfl, fun V hV => ?_⟩) (by assumption) ?_
        rotate_left
        · go_simp
          try with_reducible rfl
        try simp only [Act.put, List.getElem_toArray, List.getElem_cons_zero, List.setIfInBounds_toArray, List.set_cons_zero, List.set_cons_succ]
        refine anyL_take [21] (i := 1) (v := ?_) rfl (by kernel_rfl) (by kernel_rfl) (by kernel_rfl) (fun _ _ _ h => h) (by kernel_rfl) (by kernel_rfl) (fun _ _ => and_congr Iff.rfl (imp_congr (getD_set_iff (by decide)) Iff.rfl)) (Or.inl ⟨by rfl, fun V hV => ?_⟩) (by assumption) ?_
        rotate_left
        · obtain ⟨l, hn, hV⟩ := hV; have hX := hV.2 (hn 21 (by simp)); have e3 := (hX.2 3 _ rfl).1; have e4 := (hX.2 4 _ rfl).1; have e5 := (hX.2 5 _ rfl).1; have e6 := (hX.2 6 _ rfl).1; have e7 := (hX.2 7 _ rfl).1; have e8 := (hX.2 8 _ rfl).1; have e9 := (hX.2 9 _ rfl).1; have e10 := (hX.2 10 _ rfl).1; go_simp
          try with_reducible rfl
        try simp only [Act.put, List.getElem_toArray, List.getElem_cons_zero, List.getElem_cons_succ, List.setIfInBounds_toArray, List.set_cons_zero, List.set_cons_succ]
        refine anyL_take [] (i := 2) (v := ?_) rfl (by kernel_rfl) (by kernel_rfl) (by kernel_rfl) (fun _ _ _ h => h) (by kernel_rfl) (by kernel_rfl) (fun _ _ => and_congr Iff.rfl (imp_congr (getD_set_iff (by decide)) Iff.rfl)) (Or.inl ⟨by rfl, fun V hV => ?_⟩) (by assumption) ?_
        rotate_left
        · go_simp
          try with_reducible rfl
        try simp only [Act.put, List.getElem_toArray, List.getElem_cons_zero, List.getElem_cons_succ, List.setIfInBounds_toArray, List.set_cons_zero, List.set_cons_succ]
        refine anyL_take [] (i := 3) (v := ?_) rfl (by kernel_rfl) (by kernel_rfl) (by kernel_rfl) (fun _ _ _ h => h) (by kernel_rfl) (by kernel_rfl) (fun _ _ => and_congr Iff.rfl (imp_congr (getD_set_iff (by decide)) Iff.rfl)) (Or.inl ⟨by rfl, fun V hV => ?_⟩) (by assumption) ?_
        rotate_left
        · obtain ⟨l, hn, hV⟩ := hV; have e0 := (hV.1.1).c0; have e1 := (hV.1.1).c1; have e2 := (hV.1.1).c2; have e3 := (hV.1.1).c3; go_simp
          try with_reducible rfl
        try simp only [Act.put, List.getElem_toArray, List.getElem_cons_zero, List.getElem_cons_succ, List.setIfInBounds_toArray, List.set_cons_zero, List.set_cons_succ]
        refine anyL_take [] (i := 5) (v := ?_) rfl (by kernel_rfl) (by kernel_rfl) (by kernel_rfl) (fun _ _ _ h => h) (by kernel_rfl) (by kernel_rfl) (fun _ _ => and_congr Iff.rfl (imp_congr (getD_set_iff (by decide)) Iff.rfl)) (Or.inl ⟨by rfl, fun V hV => ?_⟩) (by assumption) ?_
        rotate_left
        · go_simp
          try with_reducible rfl
        try simp only [Act.put, List.getElem_toArray, List.getElem_cons_zero, List.getElem_cons_succ, List.setIfInBounds_toArray, List.set_cons_zero, List.set_cons_succ]
        refine anyL_take [21] (i := 6) (v := ?_) rfl (by kernel_rfl) (by kernel_rfl) (by kernel_rfl) (fun _ _ _ h => h) (by kernel_rfl) (by kernel_rfl) (fun _ _ => and_congr Iff.rfl (imp_congr (getD_set_iff (by decide)) Iff.rfl)) (Or.inl ⟨by rfl, fun V hV => ?_⟩) (by assumption) ?_
        rotate_left
        · obtain ⟨l, hn, hV⟩ := hV; have hX := hV.2 (hn 21 (by simp)); have e3 := (hX.2 3 _ rfl).1; have e4 := (hX.2 4 _ rfl).1; have e5 := (hX.2 5 _ rfl).1; have e6 := (hX.2 6 _ rfl).1; have e7 := (hX.2 7 _ rfl).1; have e8 := (hX.2 8 _ rfl).1; have e9 := (hX.2 9 _ rfl).1; have e10 := (hX.2 10 _ rfl).1; go_simp
          try with_reducible rfl
        try simp only [Act.put, List.getElem_toArray, List.getElem_cons_zero, List.getElem_cons_succ, List.setIfInBounds_toArray, List.set_cons_zero, List.set_cons_succ]
        refine anyL_take [] (i := 7) (v := ?_) rfl (by kernel_rfl) (by kernel_rfl) (by kernel_rfl) (fun _ _ _ h => h) (by kernel_rfl) (by kernel_rfl) (fun _ _ => and_congr Iff.rfl (imp_congr (getD_set_iff (by decide)) Iff.rfl)) (Or.inl ⟨by rfl, fun V hV => ?_⟩) (by assumption) ?_
        rotate_left
        · go_simp
          try with_reducible rfl
        try simp only [Act.put, List.getElem_toArray, List.getElem_cons_zero, List.getElem_cons_succ, List.setIfInBounds_toArray, List.set_cons_zero, List.set_cons_succ]
        refine anyL_take [] (i := 8) (v := ?_) rfl (by kernel_rfl) (by kernel_rfl) (by kernel_rfl) (fun _ _ _ h => h) (by kernel_rfl) (by kernel_rfl) (fun _ _ => and_congr Iff.rfl (imp_congr (getD_set_iff (by decide)) Iff.rfl)) (Or.inl ⟨by rfl, fun V hV => ?_⟩) (by assumption) ?_
        rotate_left
        · obtain ⟨l, hn, hV⟩ := hV; have e0 := (hV.1.1).c0; have e1 := (hV.1.1).c1; have e2 := (hV.1.1).c2; have e3 := (hV.1.1).c3; go_simp
          try with_reducible rfl
        try simp only [Act.put, List.getElem_toArray, List.getElem_cons_zero, List.getElem_cons_succ, List.setIfInBounds_toArray, List.set_cons_zero, List.set_cons_succ]
        refine anyL_take [] (i := 10) (v := ?_) rfl (by kernel_rfl) (by kernel_rfl) (by kernel_rfl) (fun _ _ _ h => h) (by kernel_rfl) (by kernel_rfl) (fun _ _ => and_congr Iff.rfl (imp_congr (getD_set_iff (by decide)) Iff.rfl)) (Or.inl ⟨by rfl, fun V hV => ?_⟩) (by assumption) ?_
        rotate_left
        · go_simp
          try with_reducible rfl
        try simp only [Act.put, List.getElem_toArray, List.getElem_cons_zero, List.getElem_cons_succ, List.setIfInBounds_toArray, List.set_cons_zero, List.set_cons_succ]
        refine anyL_take [21] (i := 11) (v := ?_) rfl (by kernel_rfl) (by kernel_rfl) (by kernel_rfl) (fun _ _ _ h => h) (by kernel_rfl) (by kernel_rfl) (fun _ _ => and_congr Iff.rfl (imp_congr (getD_set_iff (by decide)) Iff.rfl)) (Or.inl ⟨by rfl, fun V hV => ?_⟩) (by assumption) ?_
        rotate_left
        · obtain ⟨l, hn, hV⟩ := hV; have hX := hV.2 (hn 21 (by simp)); have e3 := (hX.2 3 _ rfl).1; have e4 := (hX.2 4 _ rfl).1; have e5 := (hX.2 5 _ rfl).1; have e6 := (hX.2 6 _ rfl).1; have e7 := (hX.2 7 _ rfl).1; have e8 := (hX.2 8 _ rfl).1; have e9 := (hX.2 9 _ rfl).1; have e10 := (hX.2 10 _ rfl).1; go_simp
          try with_reducible rfl
        try simp only [Act.put, List.getElem_toArray, List.getElem_cons_zero, List.getElem_cons_succ, List.setIfInBounds_toArray, List.set_cons_zero, List.set_cons_succ]
        refine anyL_take [] (i := 12) (v := ?_) rfl (by kernel_rfl) (by kernel_rfl) (by kernel_rfl) (fun _ _ _ h => h) (by kernel_rfl) (by kernel_rfl) (fun _ _ => and_congr Iff.rfl (imp_congr (getD_set_iff (by decide)) Iff.rfl)) (Or.inl ⟨by rfl, fun V hV => ?_⟩) (by assumption) ?_
        rotate_left
        · go_simp
          try with_reducible rfl
        try simp only [Act.put, List.getElem_toArray, List.getElem_cons_zero, List.getElem_cons_succ, List.setIfInBounds_toArray, List.set_cons_zero, List.set_cons_succ]
        refine anyL_take [] (i := 13) (v := ?_) rfl (by kernel_rfl) (by kernel_rfl) (by kernel_rfl) (fun _ _ _ h => h) (by kernel_rfl) (by kernel_rfl) (fun _ _ => and_congr Iff.rfl (imp_congr (getD_set_iff (by decide)) Iff.rfl)) (Or.inl ⟨by rfl, fun V hV => ?_⟩) (by assumption) ?_
        rotate_left
        · obtain ⟨l, hn, hV⟩ := hV; have e0 := (hV.1.1).c0; have e1 := (hV.1.1).c1; have e2 := (hV.1.1).c2; have e3 := (hV.1.1).c3; go_simp
          try with_reducible rfl
        try simp only [Act.put, List.getElem_toArray, List.getElem_cons_zero, List.getElem_cons_succ, List.setIfInBounds_toArray, List.set_cons_zero, List.set_cons_succ]
        refine anyL_take [] (i := 15) (v := ?_) rfl (by kernel_rfl) (by kernel_rfl) (by kernel_rfl) (fun _ _ _ h => h) (by kernel_rfl) (by kernel_rfl) (fun _ _ => and_congr Iff.rfl (imp_congr (getD_set_iff (by decide)) Iff.rfl)) (Or.inl ⟨by rfl, fun V hV => ?_⟩) (by assumption) ?_
        rotate_left
        · go_simp
          try with_reducible rfl
        try simp only [Act.put, List.getElem_toArray, List.getElem_cons_zero, List.getElem_cons_succ, List.setIfInBounds_toArray, List.set_cons_zero, List.set_cons_succ]
        refine anyL_take [21] (i := 16) (v := ?_) rfl (by kernel_rfl) (by kernel_rfl) (by kernel_rfl) (fun _ _ _ h => h) (by kernel_rfl) (by kernel_rfl) (fun _ _ => and_congr Iff.rfl (imp_congr (getD_set_iff (by decide)) Iff.rfl)) (Or.inl ⟨by rfl, fun V hV => ?_⟩) (by assumption) ?_
        rotate_left
        · obtain ⟨l, hn, hV⟩ := hV; have hX := hV.2 (hn 21 (by simp)); have e3 := (hX.2 3 _ rfl).1; have e4 := (hX.2 4 _ rfl).1; have e5 := (hX.2 5 _ rfl).1; have e6 := (hX.2 6 _ rfl).1; have e7 := (hX.2 7 _ rfl).1; have e8 := (hX.2 8 _ rfl).1; have e9 := (hX.2 9 _ rfl).1; have e10 := (hX.2 10 _ rfl).1; go_simp
          try with_reducible rfl
        try simp only [Act.put, List.getElem_toArray, List.getElem_cons_zero, List.getElem_cons_succ, List.setIfInBounds_toArray, List.set_cons_zero, List.set_cons_succ]
        refine anyL_take [] (i := 17) (v := ?_) rfl (by kernel_rfl) (by kernel_rfl) (by kernel_rfl) (fun _ _ _ h => h) (by kernel_rfl) (by kernel_rfl) (fun _ _ => and_congr Iff.rfl (imp_congr (getD_set_iff (by decide)) Iff.rfl)) (Or.inl ⟨by rfl, fun V hV => ?_⟩) (by assumption) ?_
        rotate_left
        · go_simp
          try with_reducible rfl
        try simp only [Act.put, List.getElem_toArray, List.getElem_cons_zero, List.getElem_cons_succ, List.setIfInBounds_toArray, List.set_cons_zero, List.set_cons_succ]
        refine anyL_take [] (i := 18) (v := ?_) rfl (by kernel_rfl) (by kernel_rfl) (by kernel_rfl) (fun _ _ _ h => h) (by kernel_rfl) (by kernel_rfl) (fun _ _ => and_congr Iff.rfl (imp_congr (getD_set_iff (by decide)) Iff.rfl)) (Or.inl ⟨by rfl, fun V hV => ?_⟩) (by assumption) ?_
        rotate_left
        · obtain ⟨l, hn, hV⟩ := hV; have e0 := (hV.1.1).c0; have e1 := (hV.1.1).c1; have e2 := (hV.1.1).c2; have e3 := (hV.1.1).c3; go_simp
          try with_reducible rfl
        try simp only [Act.put, List.getElem_toArray, List.getElem_cons_zero, List.getElem_cons_succ, List.setIfInBounds_toArray, List.set_cons_zero, List.set_cons_succ]
        refine anyL_one (i := 4) (o := _) (by kernel_rfl) rfl (fun K hK => ?_)
        go_simp
        (with_reducible refine (wider_any ra t.a _).mono ?_)
        rintro e v0 ⟨rfl, hb⟩
        have HY1 := hid (HY0.out.below hb)
        have HS1 := hid (hS.1.1.below hb); have HQ1 := hid (hS.1.2.trans ((near_below hb).mono (fun _ _ h => h.elim)))
        clear hS hb
        refine hK.out _ _ (⟨⟨HS1.out, HQ1.out⟩, fun _ => HY1.out⟩) (fun hS => ?_)
        clear hK K
        try simp only [List.setIfInBounds_toArray, List.set_cons_zero, List.set_cons_succ]
        refine anyL_take [] (i := 20) (v := ?_) rfl (by kernel_rfl) (by kernel_rfl) (by kernel_rfl) (fun _ _ _ h => h) (by kernel_rfl) (by kernel_rfl) (fun _ _ => and_congr Iff.rfl (imp_congr (getD_set_iff (by decide)) Iff.rfl)) (Or.inl ⟨by rfl, fun V hV => ?_⟩) (by assumption) ?_
        rotate_left
        · go_simp
          try with_reducible rfl
        try simp only [Act.put, List.getElem_toArray, List.getElem_cons_zero, List.getElem_cons_succ, List.setIfInBounds_toArray, List.set_cons_zero, List.set_cons_succ]
        refine anyL_one (i := 9) (o := _) (by kernel_rfl) rfl (fun K hK => ?_)
        go_simp
        (with_reducible refine (wider_any rb t.b _).mono ?_)
        rintro e v1 ⟨rfl, hb⟩
        have HY2 := hid (HY1.out.below hb)
        have HS2 := hid (hS.1.1.below hb); have HQ2 := hid (hS.1.2.trans ((near_below hb).mono (fun _ _ h => h.elim)))
        clear hS hb
        refine hK.out _ _ (⟨⟨HS2.out, HQ2.out⟩, fun _ => HY2.out⟩) (fun hS => ?_)
        clear hK K
        try simp only [List.setIfInBounds_toArray, List.set_cons_zero, List.set_cons_succ]
        refine anyL_one (i := 14) (o := _) (by kernel_rfl) rfl (fun K hK => ?_)
        go_simp
        (with_reducible refine (wider_any rh t.half _).mono ?_)
        rintro e v2 ⟨rfl, hb⟩
        have HY3 := hid (HY2.out.below hb)
        have HS3 := hid (hS.1.1.below hb); have HQ3 := hid (hS.1.2.trans ((near_below hb).mono (fun _ _ h => h.elim)))
        clear hS hb
        refine hK.out _ _ (⟨⟨HS3.out, HQ3.out⟩, fun _ => HY3.out⟩) (fun hS => ?_)
        clear hK K
        try simp only [List.setIfInBounds_toArray, List.set_cons_zero, List.set_cons_succ]
        refine anyL_one (i := 19) (o := _) (by kernel_rfl) rfl (fun K hK => ?_)
        go_simp
        (with_reducible refine (wider_any rp t.peak _).mono ?_)
        rintro e v3 ⟨rfl, hb⟩
        have HY4 := hid (HY3.out.below hb)
        have HS4 := hid (hS.1.1.below hb); have HQ4 := hid (hS.1.2.trans ((near_below hb).mono (fun _ _ h => h.elim)))
        clear hS hb
        refine hK.out _ _ (⟨⟨HS4.out, HQ4.out⟩, fun _ => HY4.out⟩) (fun hS => ?_)
        clear hK K
        try simp only [List.setIfInBounds_toArray, List.set_cons_zero, List.set_cons_succ]
        refine anyL_one (i := 21) (o := _) (by kernel_rfl) rfl (fun K hK => ?_)
        have k0 := (HY4.out.2 3 (.int .i64 ra.lo) rfl).1; have k1 := (HY4.out.2 4 (.int .i64 ra.hi) rfl).1; have f0 := (HY4.out.2 3 (.int .i64 ra.lo) rfl).2; have f1 := (HY4.out.2 4 (.int .i64 ra.hi) rfl).2
        have HX1 : Hid (BoxIs w.heap.size #[.int .i64 s.wide, .int .i64 s.high, .int .i64 s.fall, .int .i64 (widerR ra t.a).lo, .int .i64 (widerR ra t.a).hi, .int .i64 rb.lo, .int .i64 rb.hi, .int .i64 rh.lo, .int .i64 rh.hi, .int .i64 rp.lo, .int .i64 rp.hi, .slice p n c] ((v3.setCell ⟨w.heap.size, 3, none⟩ (.int .i64 (widerR ra t.a).lo)).setCell ⟨w.heap.size, 4, none⟩ (.int .i64 (widerR ra t.a).hi))) := hid ((HY4.out.put (j := 3) (.int .i64 (widerR ra t.a).lo)).put (j := 4) (.int .i64 (widerR ra t.a).hi))
        have HT1 : Hid (TruAt ((v3.setCell ⟨w.heap.size, 3, none⟩ (.int .i64 (widerR ra t.a).lo)).setCell ⟨w.heap.size, 4, none⟩ (.int .i64 (widerR ra t.a).hi)) wr.heap.size t ∧ Near (fun k => k = w.heap.size) w1 ((v3.setCell ⟨w.heap.size, 3, none⟩ (.int .i64 (widerR ra t.a).lo)).setCell ⟨w.heap.size, 4, none⟩ (.int .i64 (widerR ra t.a).hi))) := hid ⟨(hS.1.1.kept (Below.heap_setCell _ _ _ _ (by show wr.heap.size ≠ w.heap.size; have := HZR.out; omega))).kept (Below.heap_setCell _ _ _ _ (by show wr.heap.size ≠ w.heap.size; have := HZR.out; omega)), (hS.1.2.setCell (p := ⟨w.heap.size, 3, none⟩) (fun _ => rfl) _).setCell (p := ⟨w.heap.size, 4, none⟩) (fun _ => rfl) _⟩
        clear hS
        go_simp
        clear k0 k1 f0 f1
        generalize ((v3.setCell ⟨w.heap.size, 3, none⟩ (.int .i64 (widerR ra t.a).lo)).setCell ⟨w.heap.size, 4, none⟩ (.int .i64 (widerR ra t.a).hi)) = V1 at HX1 HT1 ⊢
        refine hK.out _ _ (⟨HT1.out, fun h => absurd h (by decide)⟩) (fun hS => ?_)
        clear hK K
        try simp only [List.setIfInBounds_toArray, List.set_cons_zero, List.set_cons_succ]
        refine anyL_take [] (i := 22) (v := ?_) rfl (by kernel_rfl) (by kernel_rfl) (by kernel_rfl) (fun _ _ _ h => h) (by kernel_rfl) (by kernel_rfl) (fun _ _ => and_congr Iff.rfl (imp_congr (getD_set_iff (by decide)) Iff.rfl)) (Or.inl ⟨by rfl, fun V hV => ?_⟩) (by assumption) ?_
        rotate_left
        · go_simp
          try with_reducible rfl
        try simp only [Act.put, List.getElem_toArray, List.getElem_cons_zero, List.getElem_cons_succ, List.setIfInBounds_toArray, List.set_cons_zero, List.set_cons_succ]
        refine anyL_one (i := 23) (o := _) (by kernel_rfl) rfl (fun K hK => ?_)
        have k0 := (HX1.out.2 5 (.int .i64 rb.lo) rfl).1; have k1 := (HX1.out.2 6 (.int .i64 rb.hi) rfl).1; have f0 := (HX1.out.2 5 (.int .i64 rb.lo) rfl).2; have f1 := (HX1.out.2 6 (.int .i64 rb.hi) rfl).2
        have HX2 : Hid (BoxIs w.heap.size #[.int .i64 s.wide, .int .i64 s.high, .int .i64 s.fall, .int .i64 (widerR ra t.a).lo, .int .i64 (widerR ra t.a).hi, .int .i64 (widerR rb t.b).lo, .int .i64 (widerR rb t.b).hi, .int .i64 rh.lo, .int .i64 rh.hi, .int .i64 rp.lo, .int .i64 rp.hi, .slice p n c] ((V1.setCell ⟨w.heap.size, 5, none⟩ (.int .i64 (widerR rb t.b).lo)).setCell ⟨w.heap.size, 6, none⟩ (.int .i64 (widerR rb t.b).hi))) := hid ((HX1.out.put (j := 5) (.int .i64 (widerR rb t.b).lo)).put (j := 6) (.int .i64 (widerR rb t.b).hi))
        have HT2 : Hid (TruAt ((V1.setCell ⟨w.heap.size, 5, none⟩ (.int .i64 (widerR rb t.b).lo)).setCell ⟨w.heap.size, 6, none⟩ (.int .i64 (widerR rb t.b).hi)) wr.heap.size t ∧ Near (fun k => k = w.heap.size) w1 ((V1.setCell ⟨w.heap.size, 5, none⟩ (.int .i64 (widerR rb t.b).lo)).setCell ⟨w.heap.size, 6, none⟩ (.int .i64 (widerR rb t.b).hi))) := hid ⟨(hS.1.1.kept (Below.heap_setCell _ _ _ _ (by show wr.heap.size ≠ w.heap.size; have := HZR.out; omega))).kept (Below.heap_setCell _ _ _ _ (by show wr.heap.size ≠ w.heap.size; have := HZR.out; omega)), (hS.1.2.setCell (p := ⟨w.heap.size, 5, none⟩) (fun _ => rfl) _).setCell (p := ⟨w.heap.size, 6, none⟩) (fun _ => rfl) _⟩
        clear hS
        go_simp
        clear k0 k1 f0 f1
        generalize ((V1.setCell ⟨w.heap.size, 5, none⟩ (.int .i64 (widerR rb t.b).lo)).setCell ⟨w.heap.size, 6, none⟩ (.int .i64 (widerR rb t.b).hi)) = V2 at HX2 HT2 ⊢
        refine hK.out _ _ (⟨HT2.out, fun h => absurd h (by decide)⟩) (fun hS => ?_)
        clear hK K
        try simp only [List.setIfInBounds_toArray, List.set_cons_zero, List.set_cons_succ]
        refine anyL_take [] (i := 24) (v := ?_) rfl (by kernel_rfl) (by kernel_rfl) (by kernel_rfl) (fun _ _ _ h => h) (by kernel_rfl) (by kernel_rfl) (fun _ _ => and_congr Iff.rfl (imp_congr (getD_set_iff (by decide)) Iff.rfl)) (Or.inl ⟨by rfl, fun V hV => ?_⟩) (by assumption) ?_
        rotate_left
        · go_simp
          try with_reducible rfl
        try simp only [Act.put, List.getElem_toArray, List.getElem_cons_zero, List.getElem_cons_succ, List.setIfInBounds_toArray, List.set_cons_zero, List.set_cons_succ]
        refine anyL_one (i := 25) (o := _) (by kernel_rfl) rfl (fun K hK => ?_)
        have k0 := (HX2.out.2 7 (.int .i64 rh.lo) rfl).1; have k1 := (HX2.out.2 8 (.int .i64 rh.hi) rfl).1; have f0 := (HX2.out.2 7 (.int .i64 rh.lo) rfl).2; have f1 := (HX2.out.2 8 (.int .i64 rh.hi) rfl).2
        have HX3 : Hid (BoxIs w.heap.size #[.int .i64 s.wide, .int .i64 s.high, .int .i64 s.fall, .int .i64 (widerR ra t.a).lo, .int .i64 (widerR ra t.a).hi, .int .i64 (widerR rb t.b).lo, .int .i64 (widerR rb t.b).hi, .int .i64 (widerR rh t.half).lo, .int .i64 (widerR rh t.half).hi, .int .i64 rp.lo, .int .i64 rp.hi, .slice p n c] ((V2.setCell ⟨w.heap.size, 7, none⟩ (.int .i64 (widerR rh t.half).lo)).setCell ⟨w.heap.size, 8, none⟩ (.int .i64 (widerR rh t.half).hi))) := hid ((HX2.out.put (j := 7) (.int .i64 (widerR rh t.half).lo)).put (j := 8) (.int .i64 (widerR rh t.half).hi))
        have HT3 : Hid (TruAt ((V2.setCell ⟨w.heap.size, 7, none⟩ (.int .i64 (widerR rh t.half).lo)).setCell ⟨w.heap.size, 8, none⟩ (.int .i64 (widerR rh t.half).hi)) wr.heap.size t ∧ Near (fun k => k = w.heap.size) w1 ((V2.setCell ⟨w.heap.size, 7, none⟩ (.int .i64 (widerR rh t.half).lo)).setCell ⟨w.heap.size, 8, none⟩ (.int .i64 (widerR rh t.half).hi))) := hid ⟨(hS.1.1.kept (Below.heap_setCell _ _ _ _ (by show wr.heap.size ≠ w.heap.size; have := HZR.out; omega))).kept (Below.heap_setCell _ _ _ _ (by show wr.heap.size ≠ w.heap.size; have := HZR.out; omega)), (hS.1.2.setCell (p := ⟨w.heap.size, 7, none⟩) (fun _ => rfl) _).setCell (p := ⟨w.heap.size, 8, none⟩) (fun _ => rfl) _⟩
        clear hS
        go_simp
        clear k0 k1 f0 f1
        generalize ((V2.setCell ⟨w.heap.size, 7, none⟩ (.int .i64 (widerR rh t.half).lo)).setCell ⟨w.heap.size, 8, none⟩ (.int .i64 (widerR rh t.half).hi)) = V3 at HX3 HT3 ⊢
        refine hK.out _ _ (⟨HT3.out, fun h => absurd h (by decide)⟩) (fun hS => ?_)
        clear hK K
        try simp only [List.setIfInBounds_toArray, List.set_cons_zero, List.set_cons_succ]
        refine anyL_take [] (i := 26) (v := ?_) rfl (by kernel_rfl) (by kernel_rfl) (by kernel_rfl) (fun _ _ _ h => h) (by kernel_rfl) (by kernel_rfl) (fun _ _ => and_congr Iff.rfl (imp_congr (getD_set_iff (by decide)) Iff.rfl)) (Or.inl ⟨by rfl, fun V hV => ?_⟩) (by assumption) ?_
        rotate_left
        · go_simp
          try with_reducible rfl
        try simp only [Act.put, List.getElem_toArray, List.getElem_cons_zero, List.getElem_cons_succ, List.setIfInBounds_toArray, List.set_cons_zero, List.set_cons_succ]
        refine anyL_one (i := 27) (o := _) (by kernel_rfl) rfl (fun K hK => ?_)
        have k0 := (HX3.out.2 9 (.int .i64 rp.lo) rfl).1; have k1 := (HX3.out.2 10 (.int .i64 rp.hi) rfl).1; have f0 := (HX3.out.2 9 (.int .i64 rp.lo) rfl).2; have f1 := (HX3.out.2 10 (.int .i64 rp.hi) rfl).2
        have HX4 : Hid (BoxIs w.heap.size #[.int .i64 s.wide, .int .i64 s.high, .int .i64 s.fall, .int .i64 (widerR ra t.a).lo, .int .i64 (widerR ra t.a).hi, .int .i64 (widerR rb t.b).lo, .int .i64 (widerR rb t.b).hi, .int .i64 (widerR rh t.half).lo, .int .i64 (widerR rh t.half).hi, .int .i64 (widerR rp t.peak).lo, .int .i64 (widerR rp t.peak).hi, .slice p n c] ((V3.setCell ⟨w.heap.size, 9, none⟩ (.int .i64 (widerR rp t.peak).lo)).setCell ⟨w.heap.size, 10, none⟩ (.int .i64 (widerR rp t.peak).hi))) := hid ((HX3.out.put (j := 9) (.int .i64 (widerR rp t.peak).lo)).put (j := 10) (.int .i64 (widerR rp t.peak).hi))
        have HT4 : Hid (TruAt ((V3.setCell ⟨w.heap.size, 9, none⟩ (.int .i64 (widerR rp t.peak).lo)).setCell ⟨w.heap.size, 10, none⟩ (.int .i64 (widerR rp t.peak).hi)) wr.heap.size t ∧ Near (fun k => k = w.heap.size) w1 ((V3.setCell ⟨w.heap.size, 9, none⟩ (.int .i64 (widerR rp t.peak).lo)).setCell ⟨w.heap.size, 10, none⟩ (.int .i64 (widerR rp t.peak).hi))) := hid ⟨(hS.1.1.kept (Below.heap_setCell _ _ _ _ (by show wr.heap.size ≠ w.heap.size; have := HZR.out; omega))).kept (Below.heap_setCell _ _ _ _ (by show wr.heap.size ≠ w.heap.size; have := HZR.out; omega)), (hS.1.2.setCell (p := ⟨w.heap.size, 9, none⟩) (fun _ => rfl) _).setCell (p := ⟨w.heap.size, 10, none⟩) (fun _ => rfl) _⟩
        clear hS
        go_simp
        clear k0 k1 f0 f1
        generalize ((V3.setCell ⟨w.heap.size, 9, none⟩ (.int .i64 (widerR rp t.peak).lo)).setCell ⟨w.heap.size, 10, none⟩ (.int .i64 (widerR rp t.peak).hi)) = V4 at HX4 HT4 ⊢
        refine hK.out _ _ (⟨HT4.out, fun h => absurd h (by decide)⟩) (fun hS => ?_)
        clear hK K
        try simp only [List.setIfInBounds_toArray, List.set_cons_zero, List.set_cons_succ]
        refine anyL_done (by kernel_rfl) ?_ _
        have HS9 := hid hS
        clear hS
        go_wp2_with fail
        go_roundw
        case rel => exact ⟨k + 1, by omega, by go_num, ⟨_, _, _, _, HSra.out, HSrb.out, HSrh.out, HSrp.out, HX4.out⟩, HS9.out.1.2⟩
        case measure => simp [intOf]; omega
      · have hkN : k = N := by omega
        subst hkN
        have hL9 : L.take k = L := by rw [← HN.out]; exact List.take_length
        rw [hL9] at ha hb hh hp
        clear hL9
        rw [← HBa.out] at ha
        rw [← HBb.out] at hb
        rw [← HBhalf.out] at hh
        rw [← HBpeak.out] at hp
        subst ha hb hh hp
        have HX9 : Hid (BoxIs w.heap.size #[.int .i64 s.wide, .int .i64 s.high, .int .i64 s.fall, .int .i64 (boundS s).a.lo, .int .i64 (boundS s).a.hi, .int .i64 (boundS s).b.lo, .int .i64 (boundS s).b.hi, .int .i64 (boundS s).half.lo, .int .i64 (boundS s).half.hi, .int .i64 (boundS s).peak.lo, .int .i64 (boundS s).peak.hi, .slice p n c] wr) := hid hx
        have HNR := hid hnr
        have HZZ : Hid (BoxIs (w.heap.size + 1) #[.int .i64 0, .int .i64 0, .int .i64 0, .int .i64 0, .int .i64 0, .int .i64 0, .int .i64 0, .int .i64 0, .int .i64 0, .int .i64 0, .int .i64 0, .slice none 0 0] wr) := hid (HZB.out.near hnr (fun h => by omega))
        have HBW : Hid (Below w.heap.size w wr) := hid (HB.out.trans (hnr.below (by have := HZ1.out; omega) (fun k h1 h2 => by omega)))
        have HNS : Hid (w.heap.size + 2 ≤ wr.heap.size) := hid (by have := hnr.size; have := HZ1.out; omega)
        have HCK := hid (fun W (hb : Below wr.heap.size wr W) => cloneK_any p n c s.cards W ((HC.out.below HBW.out).below hb) (by have := HC.out.1; have := HOK.out.n6; omega))
        clear hx hnr
        have k0 := (HX9.out.2 0 (.int .i64 s.wide) rfl).1
        have k1 := (HX9.out.2 1 (.int .i64 s.high) rfl).1
        have k2 := (HX9.out.2 2 (.int .i64 s.fall) rfl).1
        have k3 := (HX9.out.2 3 (.int .i64 (boundS s).a.lo) rfl).1
        have k4 := (HX9.out.2 4 (.int .i64 (boundS s).a.hi) rfl).1
        have k5 := (HX9.out.2 5 (.int .i64 (boundS s).b.lo) rfl).1
        have k6 := (HX9.out.2 6 (.int .i64 (boundS s).b.hi) rfl).1
        have k7 := (HX9.out.2 7 (.int .i64 (boundS s).half.lo) rfl).1
        have k8 := (HX9.out.2 8 (.int .i64 (boundS s).half.hi) rfl).1
        have k9 := (HX9.out.2 9 (.int .i64 (boundS s).peak.lo) rfl).1
        have k10 := (HX9.out.2 10 (.int .i64 (boundS s).peak.hi) rfl).1
        have k11 := (HX9.out.2 11 (.slice p n c) rfl).1
        have f11 := (HX9.out.2 11 (.slice p n c) rfl).2
        go_wp2_with fail
        refine (HCK.out _ (Below.refl _ _)).mono ?_
        rintro e w3 ⟨v, rfl, hown, hb3⟩
        obtain ⟨q, c9, rfl, hcl⟩ := hown.slice cellsK_len
        clear k0 k1 k2 k3 k4 k5 k6 k7 k8 k9 k10 k11 f11
        obtain ⟨N9, hN9⟩ : ∃ m, s.cards.length = m := ⟨_, rfl⟩
        rw [hN9] at hcl ⊢
        have HX3 := hid (HX9.out.below hb3)
        have HX8 : Hid (BoxIs w.heap.size #[.int .i64 s.wide, .int .i64 s.high, .int .i64 s.fall, .int .i64 (boundS s).a.lo, .int .i64 (boundS s).a.hi, .int .i64 (boundS s).b.lo, .int .i64 (boundS s).b.hi, .int .i64 (boundS s).half.lo, .int .i64 (boundS s).half.hi, .int .i64 (boundS s).peak.lo, .int .i64 (boundS s).peak.hi, .slice q N9 c9] _) := hid (HX3.out.put (j := 11) (.slice q N9 c9))
        have HZ3 := hid (HZZ.out.below hb3)
        have HBW3 := hid (HBW.out.trans (hb3.mono HBW.out.size))
        have HCL := hid hcl
        have HOWN := hid hown
        clear hown hcl hb3
        have k11 := (HX3.out.2 11 (.slice p n c) rfl).1
        have f11 := (HX3.out.2 11 (.slice p n c) rfl).2
        have HZ8 := hid (HZ3.out.other (b' := w.heap.size) (k' := 11) (by omega) (.slice q N9 c9))
        have HB8 := hid (HBW3.out.setCell (p := ⟨w.heap.size, 11, none⟩) (Nat.le_refl _) (.slice q N9 c9))
        have m0 := (HX8.out.2 0 (.int .i64 s.wide) rfl).1
        have m1 := (HX8.out.2 1 (.int .i64 s.high) rfl).1
        have m2 := (HX8.out.2 2 (.int .i64 s.fall) rfl).1
        have m3 := (HX8.out.2 3 (.int .i64 (boundS s).a.lo) rfl).1
        have m4 := (HX8.out.2 4 (.int .i64 (boundS s).a.hi) rfl).1
        have m5 := (HX8.out.2 5 (.int .i64 (boundS s).b.lo) rfl).1
        have m6 := (HX8.out.2 6 (.int .i64 (boundS s).b.hi) rfl).1
        have m7 := (HX8.out.2 7 (.int .i64 (boundS s).half.lo) rfl).1
        have m8 := (HX8.out.2 8 (.int .i64 (boundS s).half.hi) rfl).1
        have m9 := (HX8.out.2 9 (.int .i64 (boundS s).peak.lo) rfl).1
        have m10 := (HX8.out.2 10 (.int .i64 (boundS s).peak.hi) rfl).1
        have m11 := (HX8.out.2 11 (.slice q N9 c9) rfl).1
        have z0 := (HZ8.out.2 0 (.int .i64 0) rfl).1
        have z1 := (HZ8.out.2 1 (.int .i64 0) rfl).1
        have z2 := (HZ8.out.2 2 (.int .i64 0) rfl).1
        have z3 := (HZ8.out.2 3 (.int .i64 0) rfl).1
        have z4 := (HZ8.out.2 4 (.int .i64 0) rfl).1
        have z5 := (HZ8.out.2 5 (.int .i64 0) rfl).1
        have z6 := (HZ8.out.2 6 (.int .i64 0) rfl).1
        have z7 := (HZ8.out.2 7 (.int .i64 0) rfl).1
        have z8 := (HZ8.out.2 8 (.int .i64 0) rfl).1
        have z9 := (HZ8.out.2 9 (.int .i64 0) rfl).1
        have z10 := (HZ8.out.2 10 (.int .i64 0) rfl).1
        have z11 := (HZ8.out.2 11 (.slice none 0 0) rfl).1
        have y0 := (HZ8.out.2 0 (.int .i64 0) rfl).2
        have y1 := (HZ8.out.2 1 (.int .i64 0) rfl).2
        have y2 := (HZ8.out.2 2 (.int .i64 0) rfl).2
        have y3 := (HZ8.out.2 3 (.int .i64 0) rfl).2
        have y4 := (HZ8.out.2 4 (.int .i64 0) rfl).2
        have y5 := (HZ8.out.2 5 (.int .i64 0) rfl).2
        have y6 := (HZ8.out.2 6 (.int .i64 0) rfl).2
        have y7 := (HZ8.out.2 7 (.int .i64 0) rfl).2
        have y8 := (HZ8.out.2 8 (.int .i64 0) rfl).2
        have y9 := (HZ8.out.2 9 (.int .i64 0) rfl).2
        have y10 := (HZ8.out.2 10 (.int .i64 0) rfl).2
        have y11 := (HZ8.out.2 11 (.slice none 0 0) rfl).2
        have HR := hid (HZ8.out.put12 (.int .i64 s.wide) (.int .i64 s.high) (.int .i64 s.fall) (.int .i64 (boundS s).a.lo) (.int .i64 (boundS s).a.hi) (.int .i64 (boundS s).b.lo) (.int .i64 (boundS s).b.hi) (.int .i64 (boundS s).half.lo) (.int .i64 (boundS s).half.hi) (.int .i64 (boundS s).peak.lo) (.int .i64 (boundS s).peak.hi) (.slice q N9 c9))
        have HB9 := hid (below_put12 HB8.out (Nat.le_succ _) (.int .i64 s.wide) (.int .i64 s.high) (.int .i64 s.fall) (.int .i64 (boundS s).a.lo) (.int .i64 (boundS s).a.hi) (.int .i64 (boundS s).b.lo) (.int .i64 (boundS s).b.hi) (.int .i64 (boundS s).half.lo) (.int .i64 (boundS s).half.hi) (.int .i64 (boundS s).peak.lo) (.int .i64 (boundS s).peak.hi) (.slice q N9 c9))
        have HO9 := hid (near_put12 (((Near.refl _ w3).setCell (p := ⟨w.heap.size, 11, none⟩) (fun _ => .inl rfl) (.slice q N9 c9) : Near (fun k => k = w.heap.size ∨ k = w.heap.size + 1) w3 _)) (.inr rfl) (.int .i64 s.wide) (.int .i64 s.high) (.int .i64 s.fall) (.int .i64 (boundS s).a.lo) (.int .i64 (boundS s).a.hi) (.int .i64 (boundS s).b.lo) (.int .i64 (boundS s).b.hi) (.int .i64 (boundS s).half.lo) (.int .i64 (boundS s).half.hi) (.int .i64 (boundS s).peak.lo) (.int .i64 (boundS s).peak.hi) (.slice q N9 c9))
        go_wp2_with fail
        generalize (((((((((((((w3.setCell ⟨w.heap.size, 11, none⟩ (.slice q N9 c9)).setCell ⟨w.heap.size + 1, 0, none⟩ (.int .i64 s.wide)).setCell ⟨w.heap.size + 1, 1, none⟩ (.int .i64 s.high)).setCell ⟨w.heap.size + 1, 2, none⟩ (.int .i64 s.fall)).setCell ⟨w.heap.size + 1, 3, none⟩ (.int .i64 (boundS s).a.lo)).setCell ⟨w.heap.size + 1, 4, none⟩ (.int .i64 (boundS s).a.hi)).setCell ⟨w.heap.size + 1, 5, none⟩ (.int .i64 (boundS s).b.lo)).setCell ⟨w.heap.size + 1, 6, none⟩ (.int .i64 (boundS s).b.hi)).setCell ⟨w.heap.size + 1, 7, none⟩ (.int .i64 (boundS s).half.lo)).setCell ⟨w.heap.size + 1, 8, none⟩ (.int .i64 (boundS s).half.hi)).setCell ⟨w.heap.size + 1, 9, none⟩ (.int .i64 (boundS s).peak.lo)).setCell ⟨w.heap.size + 1, 10, none⟩ (.int .i64 (boundS s).peak.hi)).setCell ⟨w.heap.size + 1, 11, none⟩ (.slice q N9 c9)) = W9 at HR HB9 HO9 ⊢
        clear k11 f11 m0 z0 y0 m1 z1 y1 m2 z2 y2 m3 z3 y3 m4 z4 y4 m5 z5 y5 m6 z6 y6 m7 z7 y7 m8 z8 y8 m9 z9 y9 m10 z10 y10 m11 z11 y11
        have x0 := (HR.out.2 0 (.int .i64 s.wide) rfl).1
        have x1 := (HR.out.2 1 (.int .i64 s.high) rfl).1
        have x2 := (HR.out.2 2 (.int .i64 s.fall) rfl).1
        have x3 := (HR.out.2 3 (.int .i64 (boundS s).a.lo) rfl).1
        have x4 := (HR.out.2 4 (.int .i64 (boundS s).a.hi) rfl).1
        have x5 := (HR.out.2 5 (.int .i64 (boundS s).b.lo) rfl).1
        have x6 := (HR.out.2 6 (.int .i64 (boundS s).b.hi) rfl).1
        have x7 := (HR.out.2 7 (.int .i64 (boundS s).half.lo) rfl).1
        have x8 := (HR.out.2 8 (.int .i64 (boundS s).half.hi) rfl).1
        have x9 := (HR.out.2 9 (.int .i64 (boundS s).peak.lo) rfl).1
        have x10 := (HR.out.2 10 (.int .i64 (boundS s).peak.hi) rfl).1
        have x11 := (HR.out.2 11 (.slice q N9 c9) rfl).1
        refine bodyPost_ret (v := .tuple #[.agg #[.int .i64 s.wide, .int .i64 s.high, .int .i64 s.fall, .int .i64 (boundS s).a.lo, .int .i64 (boundS s).a.hi, .int .i64 (boundS s).b.lo, .int .i64 (boundS s).b.hi, .int .i64 (boundS s).half.lo, .int .i64 (boundS s).half.hi, .int .i64 (boundS s).peak.lo, .int .i64 (boundS s).peak.hi, .slice q N9 c9], .int .i64 0]) (by simp [results, Try.f38, go_sem, x0, x1, x2, x3, x4, x5, x6, x7, x8, x9, x10, x11]) rfl ?_
        exact ⟨q, N9, c9, by rw [HVV.out, HE.out]; rfl, by rw [HVV.out]; obtain ⟨q2, c2, e2, hr2⟩ := (HOWN.out.near HO9.out (fun k hk => by have := HBW.out.size; have := HNS.out; omega)).slice cellsK_len; cases e2; rw [hN9] at hr2; exact crds_iff.2 hr2, HB9.out⟩
  · have hE' : (sureE s true != 0) = true := by simp [hE]
    have HF : Hid (boundS s = zeroS) := by show _ = _; rw [HV.out, if_neg hE]
    have HN := hid hE
    clear hE
    have z0 := (HZB.out.2 0 (.int .i64 0) rfl).1
    have z1 := (HZB.out.2 1 (.int .i64 0) rfl).1
    have z2 := (HZB.out.2 2 (.int .i64 0) rfl).1
    have z3 := (HZB.out.2 3 (.int .i64 0) rfl).1
    have z4 := (HZB.out.2 4 (.int .i64 0) rfl).1
    have z5 := (HZB.out.2 5 (.int .i64 0) rfl).1
    have z6 := (HZB.out.2 6 (.int .i64 0) rfl).1
    have z7 := (HZB.out.2 7 (.int .i64 0) rfl).1
    have z8 := (HZB.out.2 8 (.int .i64 0) rfl).1
    have z9 := (HZB.out.2 9 (.int .i64 0) rfl).1
    have z10 := (HZB.out.2 10 (.int .i64 0) rfl).1
    have z11 := (HZB.out.2 11 (.slice none 0 0) rfl).1
    have y0 := (HZB.out.2 0 (.int .i64 0) rfl).2
    have y1 := (HZB.out.2 1 (.int .i64 0) rfl).2
    have y2 := (HZB.out.2 2 (.int .i64 0) rfl).2
    have y3 := (HZB.out.2 3 (.int .i64 0) rfl).2
    have y4 := (HZB.out.2 4 (.int .i64 0) rfl).2
    have y5 := (HZB.out.2 5 (.int .i64 0) rfl).2
    have y6 := (HZB.out.2 6 (.int .i64 0) rfl).2
    have y7 := (HZB.out.2 7 (.int .i64 0) rfl).2
    have y8 := (HZB.out.2 8 (.int .i64 0) rfl).2
    have y9 := (HZB.out.2 9 (.int .i64 0) rfl).2
    have y10 := (HZB.out.2 10 (.int .i64 0) rfl).2
    have y11 := (HZB.out.2 11 (.slice none 0 0) rfl).2
    have HR := hid (HZB.out.put12 (.int .i64 0) (.int .i64 0) (.int .i64 0) (.int .i64 0) (.int .i64 0) (.int .i64 0) (.int .i64 0) (.int .i64 0) (.int .i64 0) (.int .i64 0) (.int .i64 0) (.slice none 0 0))
    have HB9 := hid (below_put12 HB.out (Nat.le_succ _) (.int .i64 0) (.int .i64 0) (.int .i64 0) (.int .i64 0) (.int .i64 0) (.int .i64 0) (.int .i64 0) (.int .i64 0) (.int .i64 0) (.int .i64 0) (.int .i64 0) (.slice none 0 0))
    go_wp2_with fail
    generalize ((((((((((((w1.setCell ⟨w.heap.size + 1, 0, none⟩ (.int .i64 0)).setCell ⟨w.heap.size + 1, 1, none⟩ (.int .i64 0)).setCell ⟨w.heap.size + 1, 2, none⟩ (.int .i64 0)).setCell ⟨w.heap.size + 1, 3, none⟩ (.int .i64 0)).setCell ⟨w.heap.size + 1, 4, none⟩ (.int .i64 0)).setCell ⟨w.heap.size + 1, 5, none⟩ (.int .i64 0)).setCell ⟨w.heap.size + 1, 6, none⟩ (.int .i64 0)).setCell ⟨w.heap.size + 1, 7, none⟩ (.int .i64 0)).setCell ⟨w.heap.size + 1, 8, none⟩ (.int .i64 0)).setCell ⟨w.heap.size + 1, 9, none⟩ (.int .i64 0)).setCell ⟨w.heap.size + 1, 10, none⟩ (.int .i64 0)).setCell ⟨w.heap.size + 1, 11, none⟩ (.slice none 0 0)) = W9 at HR HB9 ⊢
    clear z0 y0 z1 y1 z2 y2 z3 y3 z4 y4 z5 y5 z6 y6 z7 y7 z8 y8 z9 y9 z10 y10 z11 y11
    have x0 := (HR.out.2 0 (.int .i64 0) rfl).1
    have x1 := (HR.out.2 1 (.int .i64 0) rfl).1
    have x2 := (HR.out.2 2 (.int .i64 0) rfl).1
    have x3 := (HR.out.2 3 (.int .i64 0) rfl).1
    have x4 := (HR.out.2 4 (.int .i64 0) rfl).1
    have x5 := (HR.out.2 5 (.int .i64 0) rfl).1
    have x6 := (HR.out.2 6 (.int .i64 0) rfl).1
    have x7 := (HR.out.2 7 (.int .i64 0) rfl).1
    have x8 := (HR.out.2 8 (.int .i64 0) rfl).1
    have x9 := (HR.out.2 9 (.int .i64 0) rfl).1
    have x10 := (HR.out.2 10 (.int .i64 0) rfl).1
    have x11 := (HR.out.2 11 (.slice none 0 0) rfl).1
    refine bodyPost_ret (v := .tuple #[.agg #[.int .i64 zeroS.wide, .int .i64 zeroS.high, .int .i64 zeroS.fall, .int .i64 zeroS.a.lo, .int .i64 zeroS.a.hi, .int .i64 zeroS.b.lo, .int .i64 zeroS.b.hi, .int .i64 zeroS.half.lo, .int .i64 zeroS.half.hi, .int .i64 zeroS.peak.lo, .int .i64 zeroS.peak.hi, .slice none 0 0], .int .i64 (sureE s true)]) (by simp [results, Try.f38, go_sem, x0, x1, x2, x3, x4, x5, x6, x7, x8, x9, x10, x11, zeroS]) rfl ?_
    exact ⟨none, 0, 0, by rw [HF.out], by rw [HF.out]; exact ⟨rfl, fun i k h => by simp [zeroS] at h⟩, HB9.out⟩
end Go.Proofs.Ytfnefkenheglhaa
