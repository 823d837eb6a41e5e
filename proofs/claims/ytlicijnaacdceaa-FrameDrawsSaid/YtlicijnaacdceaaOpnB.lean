/- What a field and a lot read as. No condition. -/
import Derived.Test.YtlicijnaacdceaaOpnA
namespace Go.Proofs.Ytlicijnaacdceaa
open Go.ChangeShapes Go.WideShapes Go.ChangeAt Go.RowKit

theorem Try.cl84 : Try.prog.cellsOf 84 = 3 := by kernel_rfl

section
variable {H : Type} {enc : TypeId × Value → H} {w : World} {base : Nat} {spare : Nat → Bool} {held : Bool}

set_option maxRecDepth 100000 in
/-- What a field reads as. -/
theorem read_fieldV {cs : Array Value} {d : DataW H} {ps : List MemPlace} (hsz : cs.size = 3) (h : DataW.Trod enc Try.prog w base spare held 24 (.agg cs) d ps) :
    ∃ r cc p n c l, Value.agg cs = .agg #[.int .i64 r, .int .i64 cc, .slice p n c] ∧ IntsAt w p n l := by
  obtain ⟨fuel, hf0⟩ := h
  obtain ⟨l0⟩ := cs
  simp only [Value.cells] at hf0
  obtain ⟨ys, k, rfl, _, hlen, hyl, hg⟩ := DataW.trod_struct Try.underlying24 hf0
  rw [Try.cl24] at hlen
  match l0, hlen with
  | [c0, c1, c2], _ =>
    have g0 : DataW.trod enc Try.prog w base spare held k 3 (([c0, c1, c2].drop 0).take (Try.prog.cellsOf 3)) = ys[0]? := hg 0 _ rfl
    have g1 : DataW.trod enc Try.prog w base spare held k 3 (([c0, c1, c2].drop 1).take (Try.prog.cellsOf 3)) = ys[1]? := hg 1 _ rfl
    have g2 : DataW.trod enc Try.prog w base spare held k 22 (([c0, c1, c2].drop 2).take (Try.prog.cellsOf 22)) = ys[2]? := hg 2 _ rfl
    rw [Try.cl3] at g0
    replace g0 : DataW.trod enc Try.prog w base spare held k 3 [c0] = ys[0]? := g0
    rw [Try.cl3] at g1
    replace g1 : DataW.trod enc Try.prog w base spare held k 3 [c1] = ys[1]? := g1
    rw [Try.cl22] at g2
    replace g2 : DataW.trod enc Try.prog w base spare held k 22 [c2] = ys[2]? := g2
    obtain ⟨r, rfl⟩ := read_int (get_some hyl (by decide)) g0
    obtain ⟨cc, rfl⟩ := read_int (get_some hyl (by decide)) g1
    obtain ⟨z2, hz2⟩ := Option.isSome_iff_exists.1 (get_some (i := 2) hyl (by decide))
    rw [hz2] at g2
    obtain ⟨p, n', c, l, rfl, hl⟩ := read_ints g2
    exact ⟨r, cc, p, n', c, l, rfl, hl⟩

set_option maxRecDepth 100000 in
/-- What a lot reads as. -/
theorem read_lotV {cs : Array Value} {d : DataW H} {ps : List MemPlace} (hsz : cs.size = 3) (h : DataW.Trod enc Try.prog w base spare held 84 (.agg cs) d ps) :
    ∃ a b c : Int, Value.agg cs = .agg #[.int .i64 a, .int .i64 b, .int .i64 c] := by
  obtain ⟨fuel, hf0⟩ := h
  obtain ⟨l0⟩ := cs
  simp only [Value.cells] at hf0
  obtain ⟨ys, k, rfl, _, hlen, hyl, hg⟩ := DataW.trod_struct Try.underlying84 hf0
  rw [Try.cl84] at hlen
  match l0, hlen with
  | [c0, c1, c2], _ =>
    have g0 : DataW.trod enc Try.prog w base spare held k 3 (([c0, c1, c2].drop 0).take (Try.prog.cellsOf 3)) = ys[0]? := hg 0 _ rfl
    have g1 : DataW.trod enc Try.prog w base spare held k 3 (([c0, c1, c2].drop 1).take (Try.prog.cellsOf 3)) = ys[1]? := hg 1 _ rfl
    have g2 : DataW.trod enc Try.prog w base spare held k 3 (([c0, c1, c2].drop 2).take (Try.prog.cellsOf 3)) = ys[2]? := hg 2 _ rfl
    rw [Try.cl3] at g0
    replace g0 : DataW.trod enc Try.prog w base spare held k 3 [c0] = ys[0]? := g0
    rw [Try.cl3] at g1
    replace g1 : DataW.trod enc Try.prog w base spare held k 3 [c1] = ys[1]? := g1
    rw [Try.cl3] at g2
    replace g2 : DataW.trod enc Try.prog w base spare held k 3 [c2] = ys[2]? := g2
    obtain ⟨r, rfl⟩ := read_int (get_some hyl (by decide)) g0
    obtain ⟨cc, rfl⟩ := read_int (get_some hyl (by decide)) g1
    obtain ⟨dd, rfl⟩ := read_int (get_some hyl (by decide)) g2
    exact ⟨r, cc, dd, rfl⟩
end
end Go.Proofs.Ytlicijnaacdceaa
