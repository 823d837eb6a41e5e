/- What the arguments of a statement read as. No condition. -/
import Derived.Test.YtlicijnaacdceaaLawC
import Derived.Test.YtlicijnaacdceaaRows
import Derived.ProofKit
/- Opening of a survey that is an argument: what its cells read as. -/
namespace Go.Proofs.Ytlicijnaacdceaa
open Go.ChangeShapes Go.WideShapes Go.ChangeAt Go.RowKit

theorem Try.own : ownKnob Try.prog.godebug = none := by kernel_rfl
theorem Try.cl3 : Try.prog.cellsOf 3 = 1 := by kernel_rfl
theorem Try.cl4 : Try.prog.cellsOf 4 = 1 := by kernel_rfl
theorem Try.cl22 : Try.prog.cellsOf 22 = 1 := by kernel_rfl
theorem Try.cl24 : Try.prog.cellsOf 24 = 3 := by kernel_rfl
theorem Try.cl25 : Try.prog.cellsOf 25 = 1 := by kernel_rfl
theorem Try.cl27 : Try.prog.cellsOf 27 = 5 := by kernel_rfl
theorem Try.cl45 : Try.prog.cellsOf 45 = 2 := by kernel_rfl
theorem Try.cl59 : Try.prog.cellsOf 59 = 4 := by kernel_rfl

section
variable {H : Type} {enc : TypeId × Value → H} {w : World} {base : Nat} {spare : Nat → Bool} {held : Bool}

theorem read_ints {fuel : Nat} {v : Value} {x : DataW H × List MemPlace} (h : DataW.trod enc Try.prog w base spare held fuel 22 [v] = some x) : ∃ p n c l, v = .slice p n c ∧ IntsAt w p n l := by
  rcases open_ints Try.underlying22 Try.underlying3 Try.cl3 h with ⟨hcs, _⟩ | ⟨a, len, cap, zs, hcs, _, hl, _, hz, _, hcell, _⟩
  · cases hcs; exact ⟨none, 0, 0, [], rfl, IntsAt.nil _⟩
  · cases hcs
    have hlz : len ≤ zs.length := by rw [hz]; split <;> omega
    refine ⟨some a, len, cap, zs.take len, rfl, by rw [List.length_take]; omega, fun i hi => ?_⟩
    have hc := hcell i (by omega)
    obtain ⟨b, off, k⟩ := a
    have hspot : k = none := World.cell?_spot (hcell 0 (by omega))
    subst hspot
    refine ⟨b, off, rfl, ?_⟩
    have e : (⟨b, off, none⟩ : Addr).add i = ⟨b, off + i, none⟩ := by unfold Addr.add; split <;> simp_all
    rw [e] at hc
    rw [hc]
    simp [hi]

theorem read_int {fuel : Nat} {v : Value} {y : Option (DataW H × List MemPlace)} (hy : y.isSome = true) (h : DataW.trod enc Try.prog w base spare held fuel 3 [v] = y) : ∃ n, v = .int .i64 n := by
  obtain ⟨x, rfl⟩ := Option.isSome_iff_exists.1 hy
  obtain ⟨n, e, _⟩ := DataW.trod_int Try.underlying3 h
  cases e
  exact ⟨n, rfl⟩
theorem read_bool {fuel : Nat} {v : Value} {y : Option (DataW H × List MemPlace)} (hy : y.isSome = true) (h : DataW.trod enc Try.prog w base spare held fuel 4 [v] = y) : ∃ n, v = .bool n := by
  obtain ⟨x, rfl⟩ := Option.isSome_iff_exists.1 hy
  obtain ⟨n, e, _⟩ := DataW.trod_bool Try.underlying4 h
  cases e
  exact ⟨n, rfl⟩
theorem get_some {α : Type} {xs : List α} {n i : Nat} (h : xs.length = n) (hi : i < n) : (xs[i]?).isSome = true := by
  rw [List.getElem?_eq_getElem (by omega)]; rfl

set_option maxRecDepth 100000 in
theorem read_cnt {fuel : Nat} {cs : List Value} {x : DataW H × List MemPlace} (h : DataW.trod enc Try.prog w base spare held fuel 59 cs = some x) : ∃ c : Cnt, cs = cells4 c := by
  obtain ⟨xs, n, rfl, _, hlen, hxl, hf⟩ := DataW.trod_struct Try.underlying59 h
  rw [Try.cl59] at hlen
  match cs, hlen with
  | [c0, c1, c2, c3], _ =>
    have h0 : DataW.trod enc Try.prog w base spare held n 3 (([c0, c1, c2, c3].drop 0).take (Try.prog.cellsOf 3)) = xs[0]? := hf 0 _ rfl
    have h1 : DataW.trod enc Try.prog w base spare held n 45 (([c0, c1, c2, c3].drop 1).take (Try.prog.cellsOf 45)) = xs[1]? := hf 1 _ rfl
    have h2 : DataW.trod enc Try.prog w base spare held n 4 (([c0, c1, c2, c3].drop 3).take (Try.prog.cellsOf 4)) = xs[2]? := hf 2 _ rfl
    rw [Try.cl3] at h0
    replace h0 : DataW.trod enc Try.prog w base spare held n 3 [c0] = xs[0]? := h0
    rw [Try.cl45] at h1
    replace h1 : DataW.trod enc Try.prog w base spare held n 45 [c1, c2] = xs[1]? := h1
    rw [Try.cl4] at h2
    replace h2 : DataW.trod enc Try.prog w base spare held n 4 [c3] = xs[2]? := h2
    obtain ⟨a, rfl⟩ := read_int (get_some hxl (by decide)) h0
    obtain ⟨d, rfl⟩ := read_bool (get_some hxl (by decide)) h2
    obtain ⟨y, hy⟩ := Option.isSome_iff_exists.1 (get_some (i := 1) hxl (by decide))
    rw [hy] at h1
    obtain ⟨ys, k, rfl, _, _, hyl, hg⟩ := DataW.trod_struct Try.underlying45 h1
    have g0 : DataW.trod enc Try.prog w base spare held k 3 (([c1, c2].drop 0).take (Try.prog.cellsOf 3)) = ys[0]? := hg 0 _ rfl
    have g1 : DataW.trod enc Try.prog w base spare held k 3 (([c1, c2].drop 1).take (Try.prog.cellsOf 3)) = ys[1]? := hg 1 _ rfl
    rw [Try.cl3] at g0
    replace g0 : DataW.trod enc Try.prog w base spare held k 3 [c1] = ys[0]? := g0
    rw [Try.cl3] at g1
    replace g1 : DataW.trod enc Try.prog w base spare held k 3 [c2] = ys[1]? := g1
    obtain ⟨lo, rfl⟩ := read_int (get_some hyl (by decide)) g0
    obtain ⟨hi, rfl⟩ := read_int (get_some hyl (by decide)) g1
    exact ⟨⟨a, lo, hi, d⟩, rfl⟩

theorem read_cnts {fuel : Nat} {v : Value} {x : DataW H × List MemPlace} (h : DataW.trod enc Try.prog w base spare held fuel 25 [v] = some x) : ∃ p n c l, v = .slice p n c ∧ CntsAt w p n l := by
  rcases DataW.trod_slice Try.underlying25 h with ⟨hcs, _⟩ | ⟨a, len, cap, elems, rest, n, _, hcs, _, _, _, _, hel, hall, _⟩
  · cases hcs; exact ⟨none, 0, 0, [], rfl, rfl, fun i c hi => by simp at hi⟩
  · cases hcs
    have hx : ∀ i, i < len → ∃ c : Cnt, ∀ j u, (cells4 c)[j]? = some u → w.cell? ((a.add (i * 4)).add j) = some u := by
      intro i hi
      have h1 := hall i hi
      obtain ⟨y, hy⟩ := Option.isSome_iff_exists.1 (get_some hel hi)
      rw [hy, Try.cl59, Option.bind_eq_some_iff] at h1
      obtain ⟨cs, hcs, ht⟩ := h1
      obtain ⟨c, rfl⟩ := read_cnt ht
      obtain ⟨_, _, hat⟩ := World.cells?_some hcs
      refine ⟨c, fun j u hj => ?_⟩
      have hj4 : j < 4 := by have := (List.getElem?_eq_some_iff.1 hj).1; simpa [cells4] using this
      rw [hat j hj4, hj]
    refine ⟨some a, len, cap, (List.range len).map fun i => if h : i < len then Classical.choose (hx i h) else ⟨0, 0, 0, false⟩, rfl, by simp, fun i c hi => ?_⟩
    have hil : i < len := by have := (List.getElem?_eq_some_iff.1 hi).1; simpa using this
    have hce : c = Classical.choose (hx i hil) := by
      rw [List.getElem?_map, List.getElem?_range hil] at hi
      simp only [Option.map_some, Option.some.injEq, dif_pos hil] at hi
      exact hi.symm
    have hsp := Classical.choose_spec (hx i hil)
    rw [← hce] at hsp
    obtain ⟨b, off, k⟩ := a
    have hspot : k = none := by
      obtain ⟨c', h'⟩ := hx 0 (by omega)
      rw [Nat.zero_mul] at h'
      exact World.cell?_spot (h' 0 _ rfl)
    subst hspot
    have e : ∀ (o z : Nat), (⟨b, o, none⟩ : Addr).add z = ⟨b, o + z, none⟩ := fun o z => by unfold Addr.add; split <;> simp_all
    have hcell : ∀ j u, (cells4 c)[j]? = some u → w.cell? ⟨b, off + i * 4 + j, none⟩ = some u := fun j u hj => by
      have := hsp j u hj
      rw [e, e] at this
      exact this
    have q0 := hcell 0 _ rfl
    rw [Nat.add_zero] at q0
    exact ⟨b, off, rfl, World.block_lt_of_cell? _ _ q0, q0, hcell 1 _ rfl, hcell 2 _ rfl, hcell 3 _ rfl⟩

set_option maxRecDepth 100000 in
/-- What a survey reads as. -/
theorem read_surv {cs : Array Value} {d : DataW H} {ps : List MemPlace} (hsz : cs.size = 5) (h : DataW.Trod enc Try.prog w base spare held 27 (.agg cs) d ps) :
    ∃ r cc p n c l sm q m e L, Value.agg cs = .agg #[.int .i64 r, .int .i64 cc, .slice p n c, .int .i64 sm, .slice q m e] ∧ IntsAt w p n l ∧ CntsAt w q m L := by
  obtain ⟨fuel, hf0⟩ := h
  obtain ⟨l0⟩ := cs
  simp only [Value.cells] at hf0
  obtain ⟨xs, n, rfl, _, hlen, hxl, hf⟩ := DataW.trod_struct Try.underlying27 hf0
  rw [Try.cl27] at hlen
  match l0, hlen with
  | [c0, c1, c2, c3, c4], _ =>
    have h0 : DataW.trod enc Try.prog w base spare held n 24 (([c0, c1, c2, c3, c4].drop 0).take (Try.prog.cellsOf 24)) = xs[0]? := hf 0 _ rfl
    have h1 : DataW.trod enc Try.prog w base spare held n 3 (([c0, c1, c2, c3, c4].drop 3).take (Try.prog.cellsOf 3)) = xs[1]? := hf 1 _ rfl
    have h2 : DataW.trod enc Try.prog w base spare held n 25 (([c0, c1, c2, c3, c4].drop 4).take (Try.prog.cellsOf 25)) = xs[2]? := hf 2 _ rfl
    rw [Try.cl24] at h0
    replace h0 : DataW.trod enc Try.prog w base spare held n 24 [c0, c1, c2] = xs[0]? := h0
    rw [Try.cl3] at h1
    replace h1 : DataW.trod enc Try.prog w base spare held n 3 [c3] = xs[1]? := h1
    rw [Try.cl25] at h2
    replace h2 : DataW.trod enc Try.prog w base spare held n 25 [c4] = xs[2]? := h2
    obtain ⟨sm, rfl⟩ := read_int (get_some hxl (by decide)) h1
    obtain ⟨y2, hy2⟩ := Option.isSome_iff_exists.1 (get_some (i := 2) hxl (by decide))
    rw [hy2] at h2
    obtain ⟨q, m, e, L, rfl, hL⟩ := read_cnts h2
    obtain ⟨y0, hy0⟩ := Option.isSome_iff_exists.1 (get_some (i := 0) hxl (by decide))
    rw [hy0] at h0
    obtain ⟨ys, k, rfl, _, _, hyl, hg⟩ := DataW.trod_struct Try.underlying24 h0
    have g0 : DataW.trod enc Try.prog w base spare held k 3 (([c0, c1, c2].drop 0).take (Try.prog.cellsOf 3)) = ys[0]? := hg 0 _ rfl
    have g1 : DataW.trod enc Try.prog w base spare held k 3 (([c0, c1, c2].drop 1).take (Try.prog.cellsOf 3)) = ys[1]? := hg 1 _ rfl
    have g2 : DataW.trod enc Try.prog w base spare held k 22 (([c0, c1, c2].drop 2).take (Try.prog.cellsOf 22)) = ys[2]? := hg 2 _ rfl
    rw [Try.cl3] at g0
    replace g0 : DataW.trod enc Try.prog w base spare held k 3 [c0] = ys[0]? := g0
    rw [Try.cl3] at g1
    replace g1 : DataW.trod enc Try.prog w base spare held k 3 [c1] = ys[1]? := g1
    rw [Try.cl22] at g2
    replace g2 : DataW.trod enc Try.prog w base spare held k 22 [c2] = ys[2]? := g2
    obtain ⟨r, rfl⟩ := read_int (get_some hyl (by decide)) g0
    obtain ⟨cc, rfl⟩ := read_int (get_some hyl (by decide)) g1
    obtain ⟨z2, hz2⟩ := Option.isSome_iff_exists.1 (get_some (i := 2) hyl (by decide))
    rw [hz2] at g2
    obtain ⟨p, n', c, l, rfl, hl⟩ := read_ints g2
    exact ⟨r, cc, p, n', c, l, sm, q, m, e, L, rfl, hl, hL⟩
end
end Go.Proofs.Ytlicijnaacdceaa
