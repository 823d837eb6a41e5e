/- How ranges, treaties, reports and programmes read in a world. No condition. -/
import Derived.Test.YtaioobhblfnlaaaRan
namespace Go.Proofs.Ytaioobhblfnlaaa
open Go.RowKit

/-- The cells of a range, of a treaty, of a report. -/
def cellsR (r : Rng) : List Value := [.int .i64 r.lo, .int .i64 r.hi]
def cellsT (t : Tre) : List Value := [.int .i64 t.kind, .int .i64 t.part, .int .i64 t.above, .int .i64 t.most, .int .i64 t.times, .int .i64 t.price, .int .i64 t.off]
def cellsE (x : Rep) : List Value := [.int .i64 x.tr, .int .i64 x.paid.lo, .int .i64 x.paid.hi]
theorem cellsR_len (t : Rng) : (cellsR t).length = 2 := rfl
theorem cellsT_len (t : Tre) : (cellsT t).length = 7 := rfl
theorem cellsE_len (t : Rep) : (cellsE t).length = 3 := rfl
theorem cellsR_one (t : Rng) : ∀ u ∈ cellsR t, u.oneCell' = true := by
  intro u hu
  simp only [cellsR, List.mem_cons, List.not_mem_nil, or_false] at hu
  rcases hu with rfl | rfl <;> rfl
theorem cellsT_one (t : Tre) : ∀ u ∈ cellsT t, u.oneCell' = true := by
  intro u hu
  simp only [cellsT, List.mem_cons, List.not_mem_nil, or_false] at hu
  rcases hu with rfl | rfl | rfl | rfl | rfl | rfl | rfl <;> rfl
theorem cellsE_one (t : Rep) : ∀ u ∈ cellsE t, u.oneCell' = true := by
  intro u hu
  simp only [cellsE, List.mem_cons, List.not_mem_nil, or_false] at hu
  rcases hu with rfl | rfl | rfl <;> rfl
/-- Elements that are known where they lie. -/
theorem RowsAt.rng {w : World} {p : Option Addr} {n : Nat} {l : List Rng} (h : RowsAt cellsR 2 w p n l) {i : Nat} (hi : i < n) : ∃ r, l[i]? = some r ∧ ∃ b off, p = some ⟨b, off, none⟩ ∧ b < w.heap.size ∧
    w.cell? ⟨b, off + i * 2, none⟩ = some (.int .i64 r.lo) ∧ w.cell? ⟨b, off + i * 2 + 1, none⟩ = some (.int .i64 r.hi) := by
  obtain ⟨r, hr, b, off, hp, hlt, hc⟩ := h.at hi
  exact ⟨r, hr, b, off, hp, hlt, hc 0 _ rfl, hc 1 _ rfl⟩
theorem RowsAt.tre {w : World} {p : Option Addr} {n : Nat} {l : List Tre} (h : RowsAt cellsT 7 w p n l) {i : Nat} (hi : i < n) : ∃ t, l[i]? = some t ∧ ∃ b off, p = some ⟨b, off, none⟩ ∧ b < w.heap.size ∧
    w.cell? ⟨b, off + i * 7, none⟩ = some (.int .i64 t.kind) ∧ w.cell? ⟨b, off + i * 7 + 1, none⟩ = some (.int .i64 t.part) ∧ w.cell? ⟨b, off + i * 7 + 2, none⟩ = some (.int .i64 t.above) ∧
    w.cell? ⟨b, off + i * 7 + 3, none⟩ = some (.int .i64 t.most) ∧ w.cell? ⟨b, off + i * 7 + 4, none⟩ = some (.int .i64 t.times) ∧ w.cell? ⟨b, off + i * 7 + 5, none⟩ = some (.int .i64 t.price) ∧ w.cell? ⟨b, off + i * 7 + 6, none⟩ = some (.int .i64 t.off) := by
  obtain ⟨r, hr, b, off, hp, hlt, hc⟩ := h.at hi
  exact ⟨r, hr, b, off, hp, hlt, hc 0 _ rfl, hc 1 _ rfl, hc 2 _ rfl, hc 3 _ rfl, hc 4 _ rfl, hc 5 _ rfl, hc 6 _ rfl⟩
theorem RowsAt.rep {w : World} {p : Option Addr} {n : Nat} {l : List Rep} (h : RowsAt cellsE 3 w p n l) {i : Nat} (hi : i < n) : ∃ t, l[i]? = some t ∧ ∃ b off, p = some ⟨b, off, none⟩ ∧ b < w.heap.size ∧
    w.cell? ⟨b, off + i * 3, none⟩ = some (.int .i64 t.tr) ∧ w.cell? ⟨b, off + i * 3 + 1, none⟩ = some (.int .i64 t.paid.lo) ∧ w.cell? ⟨b, off + i * 3 + 2, none⟩ = some (.int .i64 t.paid.hi) := by
  obtain ⟨r, hr, b, off, hp, hlt, hc⟩ := h.at hi
  exact ⟨r, hr, b, off, hp, hlt, hc 0 _ rfl, hc 1 _ rfl, hc 2 _ rfl⟩
/-- The slices of a programme read as it says. -/
structure PrgAt (w : World) (p : Prg) (lp : Option Addr) (ln : Nat) (tp : Option Addr) (tn : Nat) (rp : Option Addr) (rn : Nat) : Prop where
  l : RowsAt cellsR 2 w lp ln p.losses
  t : RowsAt cellsT 7 w tp tn p.ts
  r : RowsAt cellsE 3 w rp rn p.reps
theorem PrgAt.below {w w' : World} {p : Prg} {lp : Option Addr} {ln : Nat} {tp : Option Addr} {tn : Nat} {rp : Option Addr} {rn : Nat} (h : PrgAt w p lp ln tp tn rp rn) (hb : Below w.heap.size w w') : PrgAt w' p lp ln tp tn rp rn := ⟨h.l.below hb, h.t.below hb, h.r.below hb⟩
theorem rows_alloc {α : Type} {enc : α → List Value} {z : Nat} {w : World} {p : Option Addr} {n : Nat} {l : List α} (h : RowsAt enc z w p n l) (o : Obj) : RowsAt enc z (w.alloc o) p n l := h.below ((Below.refl _ _).alloc (Nat.le_refl _) o)
/-- The same element, once more. -/
theorem rng_again {w : World} {b off n i : Nat} {l : List Rng} (h : RowsAt cellsR 2 w (some ⟨b, off, none⟩) n l) {r : Rng} (hr : l[i]? = some r) :
    w.cell? ⟨b, off + i * 2, none⟩ = some (.int .i64 r.lo) ∧ w.cell? ⟨b, off + i * 2 + 1, none⟩ = some (.int .i64 r.hi) := by
  obtain ⟨b', off', hp, hlt, hc⟩ := h.2 i r hr
  cases hp
  exact ⟨hc 0 _ rfl, hc 1 _ rfl⟩
theorem tre_again {w : World} {b off n i : Nat} {l : List Tre} (h : RowsAt cellsT 7 w (some ⟨b, off, none⟩) n l) {t : Tre} (hr : l[i]? = some t) :
    w.cell? ⟨b, off + i * 7, none⟩ = some (.int .i64 t.kind) ∧ w.cell? ⟨b, off + i * 7 + 1, none⟩ = some (.int .i64 t.part) ∧ w.cell? ⟨b, off + i * 7 + 2, none⟩ = some (.int .i64 t.above) ∧
    w.cell? ⟨b, off + i * 7 + 3, none⟩ = some (.int .i64 t.most) ∧ w.cell? ⟨b, off + i * 7 + 4, none⟩ = some (.int .i64 t.times) ∧ w.cell? ⟨b, off + i * 7 + 5, none⟩ = some (.int .i64 t.price) ∧ w.cell? ⟨b, off + i * 7 + 6, none⟩ = some (.int .i64 t.off) := by
  obtain ⟨b', off', hp, hlt, hc⟩ := h.2 i t hr
  cases hp
  exact ⟨hc 0 _ rfl, hc 1 _ rfl, hc 2 _ rfl, hc 3 _ rfl, hc 4 _ rfl, hc 5 _ rfl, hc 6 _ rfl⟩
theorem rep_again {w : World} {b off n i : Nat} {l : List Rep} (h : RowsAt cellsE 3 w (some ⟨b, off, none⟩) n l) {t : Rep} (hr : l[i]? = some t) :
    w.cell? ⟨b, off + i * 3, none⟩ = some (.int .i64 t.tr) ∧ w.cell? ⟨b, off + i * 3 + 1, none⟩ = some (.int .i64 t.paid.lo) ∧ w.cell? ⟨b, off + i * 3 + 2, none⟩ = some (.int .i64 t.paid.hi) := by
  obtain ⟨b', off', hp, hlt, hc⟩ := h.2 i t hr
  cases hp
  exact ⟨hc 0 _ rfl, hc 1 _ rfl, hc 2 _ rfl⟩
/-- The cells of a programme in its box. -/
structure PBox (W : World) (b : Nat) (p : Prg) (lp : Option Addr) (ln lc : Nat) (tp : Option Addr) (tn tc : Nat) (rp : Option Addr) (rn rc : Nat) : Prop where
  c0 : W.cell? ⟨b, 0, none⟩ = some (.slice lp ln lc)
  c1 : W.cell? ⟨b, 1, none⟩ = some (.int .i64 p.reserve)
  c2 : W.cell? ⟨b, 2, none⟩ = some (.slice tp tn tc)
  c3 : W.cell? ⟨b, 3, none⟩ = some (.slice rp rn rc)
theorem PBox.of {W : World} {b : Nat} {p : Prg} {lp : Option Addr} {ln lc : Nat} {tp : Option Addr} {tn tc : Nat} {rp : Option Addr} {rn rc : Nat} (h : ∀ k v, (#[.slice lp ln lc, .int .i64 p.reserve, .slice tp tn tc, .slice rp rn rc] : Array Value)[k]? = some v → W.cell? ⟨b, k, none⟩ = some v) : PBox W b p lp ln lc tp tn tc rp rn rc :=
  ⟨h 0 _ rfl, h 1 _ rfl, h 2 _ rfl, h 3 _ rfl⟩
end Go.Proofs.Ytaioobhblfnlaaa
