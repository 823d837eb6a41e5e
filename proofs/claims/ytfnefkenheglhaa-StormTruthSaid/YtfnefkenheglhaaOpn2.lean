/- What further arguments of statements read as: a rectangle, a truth, a card, a list of words. No condition. -/
import Derived.Test.YtfnefkenheglhaaOpn
namespace Go.Proofs.Ytfnefkenheglhaa
open Go.ChangeShapes Go.WideShapes Go.ChangeAt Go.RowKit

theorem Try.cl64 : Try.prog.cellsOf 64 = 4 := by kernel_rfl
theorem Try.cl92 : Try.prog.cellsOf 92 = 4 := by kernel_rfl
theorem Try.cl62 : Try.prog.cellsOf 62 = 1 := by kernel_rfl

section
variable {H : Type} {enc : TypeId × Value → H} {w : World} {base : Nat} {spare : Nat → Bool} {held : Bool}
set_option maxRecDepth 100000 in
theorem read_rect {cs : Array Value} {d : DataW H} {ps : List MemPlace} (h : DataW.Trod enc Try.prog w base spare held 64 (.agg cs) d ps) :
    ∃ x y : Rng, Value.agg cs = .agg #[.int .i64 x.lo, .int .i64 x.hi, .int .i64 y.lo, .int .i64 y.hi] := by
  obtain ⟨fuel, hf0⟩ := h
  obtain ⟨l0⟩ := cs
  simp only [Value.cells] at hf0
  obtain ⟨xs, n, rfl, _, hlen, hxl, hf⟩ := DataW.trod_struct Try.underlying64 hf0
  rw [Try.cl64] at hlen
  match l0, hlen with
  | [c0, c1, c2, c3], _ =>
    have h0 : DataW.trod enc Try.prog w base spare held n 23 (([c0, c1, c2, c3].drop 0).take (Try.prog.cellsOf 23)) = xs[0]? := hf 0 _ rfl
    rw [Try.cl23] at h0
    replace h0 : DataW.trod enc Try.prog w base spare held n 23 [c0, c1] = xs[0]? := h0
    have h1 : DataW.trod enc Try.prog w base spare held n 23 (([c0, c1, c2, c3].drop 2).take (Try.prog.cellsOf 23)) = xs[1]? := hf 1 _ rfl
    rw [Try.cl23] at h1
    replace h1 : DataW.trod enc Try.prog w base spare held n 23 [c2, c3] = xs[1]? := h1
    obtain ⟨x, rfl, rfl⟩ := read_rng (get_some hxl (by decide)) h0
    obtain ⟨y, rfl, rfl⟩ := read_rng (get_some hxl (by decide)) h1
    exact ⟨x, y, rfl⟩
set_option maxRecDepth 100000 in
theorem read_tru {cs : Array Value} {d : DataW H} {ps : List MemPlace} (h : DataW.Trod enc Try.prog w base spare held 92 (.agg cs) d ps) :
    ∃ t : Tru, Value.agg cs = .agg #[.int .i64 t.a, .int .i64 t.b, .int .i64 t.half, .int .i64 t.peak] := by
  obtain ⟨fuel, hf0⟩ := h
  obtain ⟨l0⟩ := cs
  simp only [Value.cells] at hf0
  obtain ⟨xs, n, rfl, _, hlen, hxl, hf⟩ := DataW.trod_struct Try.underlying92 hf0
  rw [Try.cl92] at hlen
  match l0, hlen with
  | [c0, c1, c2, c3], _ =>
    have h0 : DataW.trod enc Try.prog w base spare held n 3 (([c0, c1, c2, c3].drop 0).take (Try.prog.cellsOf 3)) = xs[0]? := hf 0 _ rfl
    rw [Try.cl3] at h0
    replace h0 : DataW.trod enc Try.prog w base spare held n 3 [c0] = xs[0]? := h0
    have h1 : DataW.trod enc Try.prog w base spare held n 3 (([c0, c1, c2, c3].drop 1).take (Try.prog.cellsOf 3)) = xs[1]? := hf 1 _ rfl
    rw [Try.cl3] at h1
    replace h1 : DataW.trod enc Try.prog w base spare held n 3 [c1] = xs[1]? := h1
    have h2 : DataW.trod enc Try.prog w base spare held n 3 (([c0, c1, c2, c3].drop 2).take (Try.prog.cellsOf 3)) = xs[2]? := hf 2 _ rfl
    rw [Try.cl3] at h2
    replace h2 : DataW.trod enc Try.prog w base spare held n 3 [c2] = xs[2]? := h2
    have h3 : DataW.trod enc Try.prog w base spare held n 3 (([c0, c1, c2, c3].drop 3).take (Try.prog.cellsOf 3)) = xs[3]? := hf 3 _ rfl
    rw [Try.cl3] at h3
    replace h3 : DataW.trod enc Try.prog w base spare held n 3 [c3] = xs[3]? := h3
    obtain ⟨a0, rfl⟩ := read_int (get_some hxl (by decide)) h0
    obtain ⟨a1, rfl⟩ := read_int (get_some hxl (by decide)) h1
    obtain ⟨a2, rfl⟩ := read_int (get_some hxl (by decide)) h2
    obtain ⟨a3, rfl⟩ := read_int (get_some hxl (by decide)) h3
    exact ⟨⟨a0, a1, a2, a3⟩, rfl⟩
theorem read_card {cs : Array Value} {d : DataW H} {ps : List MemPlace} (h : DataW.Trod enc Try.prog w base spare held 61 (.agg cs) d ps) :
    ∃ k : Crd, Value.agg cs = .agg #[.int .i64 k.x.lo, .int .i64 k.x.hi, .int .i64 k.y.lo, .int .i64 k.y.hi, .bool k.hail, .int .i64 k.size.lo, .int .i64 k.size.hi] := by
  obtain ⟨fuel, hf0⟩ := h
  obtain ⟨l0⟩ := cs
  simp only [Value.cells] at hf0
  obtain ⟨k, hk⟩ := read_crd hf0
  exact ⟨k, by rw [hk]; rfl⟩

/-- A list of words, as a slice reads. -/
def WordsAt (w : World) (p : Option Addr) (n : Nat) (l : List Int) : Prop :=
  n = l.length ∧ ∀ i v, l[i]? = some v → (0 ≤ v ∧ v ≤ 65535) ∧ ∃ b off, p = some ⟨b, off, none⟩ ∧ b < w.heap.size ∧ w.cell? ⟨b, off + i, none⟩ = some (.int .u16 v)
theorem WordsAt.below {w w' : World} {p : Option Addr} {n : Nat} {l : List Int} (h : WordsAt w p n l) (hb : Below w.heap.size w w') : WordsAt w' p n l :=
  ⟨h.1, fun i v hi => by
    obtain ⟨h1, b, off, hp, hlt, hc⟩ := h.2 i v hi
    exact ⟨h1, b, off, hp, Nat.lt_of_lt_of_le hlt hb.size, (hb.cell (p := ⟨b, off + i, none⟩) hlt).trans hc⟩⟩
end
end Go.Proofs.Ytfnefkenheglhaa
