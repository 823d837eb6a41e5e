/- What the arguments of a statement read as. No condition. -/
import Derived.Test.YtfnefkenheglhaaRow
import Derived.Test.YtfnefkenheglhaaRows
import Derived.ProofKit
namespace Go.Proofs.Ytfnefkenheglhaa
open Go.ChangeShapes Go.WideShapes Go.ChangeAt Go.RowKit

theorem Try.own : ownKnob Try.prog.godebug = none := by kernel_rfl
theorem Try.cl3 : Try.prog.cellsOf 3 = 1 := by kernel_rfl
theorem Try.cl4 : Try.prog.cellsOf 4 = 1 := by kernel_rfl
theorem Try.cl23 : Try.prog.cellsOf 23 = 2 := by kernel_rfl
theorem Try.cl24 : Try.prog.cellsOf 24 = 1 := by kernel_rfl
theorem Try.cl61 : Try.prog.cellsOf 61 = 7 := by kernel_rfl
theorem Try.cl26 : Try.prog.cellsOf 26 = 12 := by kernel_rfl

section
variable {H : Type} {enc : TypeId × Value → H} {w : World} {base : Nat} {spare : Nat → Bool} {held : Bool}
theorem read_int {fuel : Nat} {v : Value} {y : Option (DataW H × List MemPlace)} (hy : y.isSome = true) (h : DataW.trod enc Try.prog w base spare held fuel 3 [v] = y) : ∃ n, v = .int .i64 n := by
  obtain ⟨x, rfl⟩ := Option.isSome_iff_exists.1 hy
  obtain ⟨n, e, _⟩ := DataW.trod_int Try.underlying3 h
  cases e
  exact ⟨n, rfl⟩
theorem read_bool {fuel : Nat} {v : Value} {y : Option (DataW H × List MemPlace)} (hy : y.isSome = true) (h : DataW.trod enc Try.prog w base spare held fuel 4 [v] = y) : ∃ n, v = .bool n := by
  obtain ⟨x, rfl⟩ := Option.isSome_iff_exists.1 hy
  obtain ⟨n, e, _⟩ := DataW.trod_bool Try.underlying4 h
  cases e
  exact ⟨n, rfl⟩
theorem get_some {α : Type} {xs : List α} {n i : Nat} (h : xs.length = n) (hi : i < n) : (xs[i]?).isSome = true := by
  rw [List.getElem?_eq_getElem (by omega)]; rfl
set_option maxRecDepth 100000 in
theorem read_rng {fuel : Nat} {c0 c1 : Value} {y : Option (DataW H × List MemPlace)} (hy : y.isSome = true) (h : DataW.trod enc Try.prog w base spare held fuel 23 [c0, c1] = y) : ∃ r : Rng, c0 = .int .i64 r.lo ∧ c1 = .int .i64 r.hi := by
  obtain ⟨x, rfl⟩ := Option.isSome_iff_exists.1 hy
  obtain ⟨xs, n, rfl, _, _, hxl, hf⟩ := DataW.trod_struct Try.underlying23 h
  have h0 : DataW.trod enc Try.prog w base spare held n 3 (([c0, c1].drop 0).take (Try.prog.cellsOf 3)) = xs[0]? := hf 0 _ rfl
  have h1 : DataW.trod enc Try.prog w base spare held n 3 (([c0, c1].drop 1).take (Try.prog.cellsOf 3)) = xs[1]? := hf 1 _ rfl
  rw [Try.cl3] at h0
  replace h0 : DataW.trod enc Try.prog w base spare held n 3 [c0] = xs[0]? := h0
  rw [Try.cl3] at h1
  replace h1 : DataW.trod enc Try.prog w base spare held n 3 [c1] = xs[1]? := h1
  obtain ⟨lo, rfl⟩ := read_int (get_some hxl (by decide)) h0
  obtain ⟨hi, rfl⟩ := read_int (get_some hxl (by decide)) h1
  exact ⟨⟨lo, hi⟩, rfl, rfl⟩
set_option maxRecDepth 100000 in
theorem read_crd {fuel : Nat} {cs : List Value} {x : DataW H × List MemPlace} (h : DataW.trod enc Try.prog w base spare held fuel 61 cs = some x) : ∃ c : Crd, cs = cellsK c := by
  obtain ⟨xs, n, rfl, _, hlen, hxl, hf⟩ := DataW.trod_struct Try.underlying61 h
  rw [Try.cl61] at hlen
  match cs, hlen with
  | [c0, c1, c2, c3, c4, c5, c6], _ =>
    have h0 : DataW.trod enc Try.prog w base spare held n 23 (([c0, c1, c2, c3, c4, c5, c6].drop 0).take (Try.prog.cellsOf 23)) = xs[0]? := hf 0 _ rfl
    rw [Try.cl23] at h0
    replace h0 : DataW.trod enc Try.prog w base spare held n 23 [c0, c1] = xs[0]? := h0
    have h1 : DataW.trod enc Try.prog w base spare held n 23 (([c0, c1, c2, c3, c4, c5, c6].drop 2).take (Try.prog.cellsOf 23)) = xs[1]? := hf 1 _ rfl
    rw [Try.cl23] at h1
    replace h1 : DataW.trod enc Try.prog w base spare held n 23 [c2, c3] = xs[1]? := h1
    have h2 : DataW.trod enc Try.prog w base spare held n 4 (([c0, c1, c2, c3, c4, c5, c6].drop 4).take (Try.prog.cellsOf 4)) = xs[2]? := hf 2 _ rfl
    rw [Try.cl4] at h2
    replace h2 : DataW.trod enc Try.prog w base spare held n 4 [c4] = xs[2]? := h2
    have h3 : DataW.trod enc Try.prog w base spare held n 23 (([c0, c1, c2, c3, c4, c5, c6].drop 5).take (Try.prog.cellsOf 23)) = xs[3]? := hf 3 _ rfl
    rw [Try.cl23] at h3
    replace h3 : DataW.trod enc Try.prog w base spare held n 23 [c5, c6] = xs[3]? := h3
    obtain ⟨x, rfl, rfl⟩ := read_rng (get_some hxl (by decide)) h0
    obtain ⟨y, rfl, rfl⟩ := read_rng (get_some hxl (by decide)) h1
    obtain ⟨d, rfl⟩ := read_bool (get_some hxl (by decide)) h2
    obtain ⟨z, rfl, rfl⟩ := read_rng (get_some hxl (by decide)) h3
    exact ⟨⟨x, y, d, z⟩, rfl⟩
theorem read_crds {fuel : Nat} {v : Value} {x : DataW H × List MemPlace} (h : DataW.trod enc Try.prog w base spare held fuel 24 [v] = some x) : ∃ p n c l, v = .slice p n c ∧ CrdsAt w p n l := by
  rcases DataW.trod_slice Try.underlying24 h with ⟨hcs, _⟩ | ⟨a, len, cap, elems, rest, n, _, hcs, _, _, _, _, hel, hall, _⟩
  · cases hcs; exact ⟨none, 0, 0, [], rfl, rfl, fun i c hi => by simp at hi⟩
  · cases hcs
    have hx : ∀ i, i < len → ∃ c : Crd, ∀ j u, (cellsK c)[j]? = some u → w.cell? ((a.add (i * 7)).add j) = some u := by
      intro i hi
      have h1 := hall i hi
      obtain ⟨y, hy⟩ := Option.isSome_iff_exists.1 (get_some hel hi)
      rw [hy, Try.cl61, Option.bind_eq_some_iff] at h1
      obtain ⟨cs, hcs, ht⟩ := h1
      obtain ⟨c, rfl⟩ := read_crd ht
      obtain ⟨_, _, hat⟩ := World.cells?_some hcs
      refine ⟨c, fun j u hj => ?_⟩
      have hj7 : j < 7 := by have := (List.getElem?_eq_some_iff.1 hj).1; simpa [cellsK] using this
      rw [hat j hj7, hj]
    refine ⟨some a, len, cap, (List.range len).map fun i => if h : i < len then Classical.choose (hx i h) else ⟨⟨0, 0⟩, ⟨0, 0⟩, false, ⟨0, 0⟩⟩, rfl, ?_⟩
    refine crds_iff.2 ⟨by simp, fun i c hi => ?_⟩
    have hil : i < len := by have := (List.getElem?_eq_some_iff.1 hi).1; simpa using this
    have hce : c = Classical.choose (hx i hil) := by
      rw [List.getElem?_map, List.getElem?_range hil] at hi
      simp only [Option.map_some, Option.some.injEq, dif_pos hil] at hi
      exact hi.symm
    have hsp := Classical.choose_spec (hx i hil)
    rw [← hce] at hsp
    obtain ⟨b, off, k⟩ := a
    have hspot : k = none := by
      obtain ⟨c', h'⟩ := hx 0 (by omega)
      rw [Nat.zero_mul] at h'
      exact World.cell?_spot (h' 0 _ rfl)
    subst hspot
    have e : ∀ (o z : Nat), (⟨b, o, none⟩ : Addr).add z = ⟨b, o + z, none⟩ := fun o z => by unfold Addr.add; split <;> simp_all
    have hcell : ∀ j u, (cellsK c)[j]? = some u → w.cell? ⟨b, off + i * 7 + j, none⟩ = some u := fun j u hj => by
      have := hsp j u hj
      rw [e, e] at this
      exact this
    exact ⟨b, off, rfl, World.block_lt_of_cell? _ _ (hcell 0 _ rfl), hcell⟩
set_option maxRecDepth 100000 in
/-- What a storm reads as. -/
theorem read_sto {cs : Array Value} {d : DataW H} {ps : List MemPlace} (h : DataW.Trod enc Try.prog w base spare held 26 (.agg cs) d ps) :
    ∃ (s : Sto) (p : Option Addr) (m e : Nat), Value.agg cs = .agg #[.int .i64 s.wide, .int .i64 s.high, .int .i64 s.fall, .int .i64 s.a.lo, .int .i64 s.a.hi, .int .i64 s.b.lo, .int .i64 s.b.hi, .int .i64 s.half.lo, .int .i64 s.half.hi, .int .i64 s.peak.lo, .int .i64 s.peak.hi, .slice p m e] ∧ CrdsAt w p m s.cards := by
  obtain ⟨fuel, hf0⟩ := h
  obtain ⟨l0⟩ := cs
  simp only [Value.cells] at hf0
  obtain ⟨xs, n, rfl, _, hlen, hxl, hf⟩ := DataW.trod_struct Try.underlying26 hf0
  rw [Try.cl26] at hlen
  match l0, hlen with
  | [c0, c1, c2, c3, c4, c5, c6, c7, c8, c9, c10, c11], _ =>
    have h0 : DataW.trod enc Try.prog w base spare held n 3 (([c0, c1, c2, c3, c4, c5, c6, c7, c8, c9, c10, c11].drop 0).take (Try.prog.cellsOf 3)) = xs[0]? := hf 0 _ rfl
    rw [Try.cl3] at h0
    replace h0 : DataW.trod enc Try.prog w base spare held n 3 [c0] = xs[0]? := h0
    have h1 : DataW.trod enc Try.prog w base spare held n 3 (([c0, c1, c2, c3, c4, c5, c6, c7, c8, c9, c10, c11].drop 1).take (Try.prog.cellsOf 3)) = xs[1]? := hf 1 _ rfl
    rw [Try.cl3] at h1
    replace h1 : DataW.trod enc Try.prog w base spare held n 3 [c1] = xs[1]? := h1
    have h2 : DataW.trod enc Try.prog w base spare held n 3 (([c0, c1, c2, c3, c4, c5, c6, c7, c8, c9, c10, c11].drop 2).take (Try.prog.cellsOf 3)) = xs[2]? := hf 2 _ rfl
    rw [Try.cl3] at h2
    replace h2 : DataW.trod enc Try.prog w base spare held n 3 [c2] = xs[2]? := h2
    have h3 : DataW.trod enc Try.prog w base spare held n 23 (([c0, c1, c2, c3, c4, c5, c6, c7, c8, c9, c10, c11].drop 3).take (Try.prog.cellsOf 23)) = xs[3]? := hf 3 _ rfl
    rw [Try.cl23] at h3
    replace h3 : DataW.trod enc Try.prog w base spare held n 23 [c3, c4] = xs[3]? := h3
    have h4 : DataW.trod enc Try.prog w base spare held n 23 (([c0, c1, c2, c3, c4, c5, c6, c7, c8, c9, c10, c11].drop 5).take (Try.prog.cellsOf 23)) = xs[4]? := hf 4 _ rfl
    rw [Try.cl23] at h4
    replace h4 : DataW.trod enc Try.prog w base spare held n 23 [c5, c6] = xs[4]? := h4
    have h5 : DataW.trod enc Try.prog w base spare held n 23 (([c0, c1, c2, c3, c4, c5, c6, c7, c8, c9, c10, c11].drop 7).take (Try.prog.cellsOf 23)) = xs[5]? := hf 5 _ rfl
    rw [Try.cl23] at h5
    replace h5 : DataW.trod enc Try.prog w base spare held n 23 [c7, c8] = xs[5]? := h5
    have h6 : DataW.trod enc Try.prog w base spare held n 23 (([c0, c1, c2, c3, c4, c5, c6, c7, c8, c9, c10, c11].drop 9).take (Try.prog.cellsOf 23)) = xs[6]? := hf 6 _ rfl
    rw [Try.cl23] at h6
    replace h6 : DataW.trod enc Try.prog w base spare held n 23 [c9, c10] = xs[6]? := h6
    have h7 : DataW.trod enc Try.prog w base spare held n 24 (([c0, c1, c2, c3, c4, c5, c6, c7, c8, c9, c10, c11].drop 11).take (Try.prog.cellsOf 24)) = xs[7]? := hf 7 _ rfl
    rw [Try.cl24] at h7
    replace h7 : DataW.trod enc Try.prog w base spare held n 24 [c11] = xs[7]? := h7
    obtain ⟨wide, rfl⟩ := read_int (get_some hxl (by decide)) h0
    obtain ⟨high, rfl⟩ := read_int (get_some hxl (by decide)) h1
    obtain ⟨fall, rfl⟩ := read_int (get_some hxl (by decide)) h2
    obtain ⟨ra, rfl, rfl⟩ := read_rng (get_some hxl (by decide)) h3
    obtain ⟨rb, rfl, rfl⟩ := read_rng (get_some hxl (by decide)) h4
    obtain ⟨rh, rfl, rfl⟩ := read_rng (get_some hxl (by decide)) h5
    obtain ⟨rp, rfl, rfl⟩ := read_rng (get_some hxl (by decide)) h6
    obtain ⟨y7, hy7⟩ := Option.isSome_iff_exists.1 (get_some (i := 7) hxl (by decide))
    rw [hy7] at h7
    obtain ⟨p, m, e, L, rfl, hL⟩ := read_crds h7
    exact ⟨⟨wide, high, fall, ra, rb, rh, rp, L⟩, p, m, e, rfl, hL⟩
end
end Go.Proofs.Ytfnefkenheglhaa
