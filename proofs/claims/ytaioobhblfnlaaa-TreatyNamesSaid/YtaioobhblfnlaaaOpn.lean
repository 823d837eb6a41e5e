/- What the arguments of a statement read as: programmes, reports, lists of numbers, lists of words. No condition. -/
import Derived.Test.YtaioobhblfnlaaaD1
import Derived.Test.YtaioobhblfnlaaaRows
import Derived.ProofKit
namespace Go.Proofs.Ytaioobhblfnlaaa
open Go.ChangeShapes Go.WideShapes Go.ChangeAt Go.RowKit

theorem Try.own : ownKnob Try.prog.godebug = none := by kernel_rfl
theorem Try.cl3 : Try.prog.cellsOf 3 = 1 := by kernel_rfl
theorem Try.cl55 : Try.prog.cellsOf 55 = 2 := by kernel_rfl
theorem Try.cl94 : Try.prog.cellsOf 94 = 7 := by kernel_rfl
theorem Try.cl104 : Try.prog.cellsOf 104 = 3 := by kernel_rfl
theorem Try.cl26 : Try.prog.cellsOf 26 = 4 := by kernel_rfl
theorem Try.cl22 : Try.prog.cellsOf 22 = 1 := by kernel_rfl
theorem Try.cl23 : Try.prog.cellsOf 23 = 1 := by kernel_rfl
theorem Try.cl24 : Try.prog.cellsOf 24 = 1 := by kernel_rfl
theorem Try.cl90 : Try.prog.cellsOf 90 = 1 := by kernel_rfl

section
variable {H : Type} {enc : TypeId × Value → H} {w : World} {base : Nat} {spare : Nat → Bool} {held : Bool}
theorem read_int {fuel : Nat} {v : Value} {y : Option (DataW H × List MemPlace)} (hy : y.isSome = true) (h : DataW.trod enc Try.prog w base spare held fuel 3 [v] = y) : ∃ n, v = .int .i64 n := by
  obtain ⟨x, rfl⟩ := Option.isSome_iff_exists.1 hy
  obtain ⟨n, e, _⟩ := DataW.trod_int Try.underlying3 h
  cases e
  exact ⟨n, rfl⟩
theorem get_some {α : Type} {xs : List α} {n i : Nat} (h : xs.length = n) (hi : i < n) : (xs[i]?).isSome = true := by
  rw [List.getElem?_eq_getElem (by omega)]; rfl
/-- What a slice of structs reads as. -/
theorem read_rows {α : Type} {en : α → List Value} {z : Nat} (sl T : TypeId) (hu : Try.prog.underlying sl = some (.slice T)) (hcl : Try.prog.cellsOf T = z) (hz : ∀ c, (en c).length = z) (h0 : 0 < z) (a0 : α)
    (hr : ∀ fuel cs x, DataW.trod enc Try.prog w base spare held fuel T cs = some x → ∃ c, cs = en c)
    {fuel : Nat} {v : Value} {x : DataW H × List MemPlace} (h : DataW.trod enc Try.prog w base spare held fuel sl [v] = some x) : ∃ p n c l, v = .slice p n c ∧ RowsAt en z w p n l := by
  rcases DataW.trod_slice hu h with ⟨hcs, _⟩ | ⟨a, len, cap, elems, rest, n, _, hcs, _, _, _, _, hel, hall, _⟩
  · cases hcs; exact ⟨none, 0, 0, [], rfl, rfl, fun i c hi => by simp at hi⟩
  · cases hcs
    have hx : ∀ i, i < len → ∃ c : α, ∀ j u, (en c)[j]? = some u → w.cell? ((a.add (i * z)).add j) = some u := by
      intro i hi
      have h1 := hall i hi
      obtain ⟨y, hy⟩ := Option.isSome_iff_exists.1 (get_some hel hi)
      rw [hy, hcl, Option.bind_eq_some_iff] at h1
      obtain ⟨cs, hcs, ht⟩ := h1
      obtain ⟨c, rfl⟩ := hr _ _ _ ht
      obtain ⟨_, _, hat⟩ := World.cells?_some hcs
      refine ⟨c, fun j u hj => ?_⟩
      have hj7 : j < z := by have := (List.getElem?_eq_some_iff.1 hj).1; rwa [hz] at this
      rw [hat j hj7, hj]
    refine ⟨some a, len, cap, (List.range len).map fun i => if h : i < len then Classical.choose (hx i h) else a0, rfl, ?_⟩
    refine ⟨by simp, fun i c hi => ?_⟩
    have hil : i < len := by have := (List.getElem?_eq_some_iff.1 hi).1; simpa using this
    have hce : c = Classical.choose (hx i hil) := by
      rw [List.getElem?_map, List.getElem?_range hil] at hi
      simp only [Option.map_some, Option.some.injEq, dif_pos hil] at hi
      exact hi.symm
    have hsp := Classical.choose_spec (hx i hil)
    rw [← hce] at hsp
    obtain ⟨b, off, k⟩ := a
    have hne : ∀ c : α, ∃ u, (en c)[0]? = some u := fun c => ⟨_, List.getElem?_eq_getElem (by rw [hz]; exact h0)⟩
    have hspot : k = none := by
      obtain ⟨c', h'⟩ := hx 0 (by omega)
      obtain ⟨u, hu⟩ := hne c'
      rw [Nat.zero_mul] at h'
      exact World.cell?_spot (h' 0 _ hu)
    subst hspot
    have e : ∀ (o z : Nat), (⟨b, o, none⟩ : Addr).add z = ⟨b, o + z, none⟩ := fun o z => by unfold Addr.add; split <;> simp_all
    have hcell : ∀ j u, (en c)[j]? = some u → w.cell? ⟨b, off + i * z + j, none⟩ = some u := fun j u hj => by
      have := hsp j u hj
      rw [e, e] at this
      exact this
    obtain ⟨u, hu⟩ := hne c
    exact ⟨b, off, rfl, World.block_lt_of_cell? _ _ (hcell 0 _ hu), hcell⟩
set_option maxRecDepth 100000 in
theorem read_rng {fuel : Nat} {c0 c1 : Value} {y : Option (DataW H × List MemPlace)} (hy : y.isSome = true) (h : DataW.trod enc Try.prog w base spare held fuel 55 [c0, c1] = y) : ∃ r : Rng, c0 = .int .i64 r.lo ∧ c1 = .int .i64 r.hi := by
  obtain ⟨x, rfl⟩ := Option.isSome_iff_exists.1 hy
  obtain ⟨xs, n, rfl, _, _, hxl, hf⟩ := DataW.trod_struct Try.underlying55 h
  have h0 : DataW.trod enc Try.prog w base spare held n 3 (([c0, c1].drop 0).take (Try.prog.cellsOf 3)) = xs[0]? := hf 0 _ rfl
  have h1 : DataW.trod enc Try.prog w base spare held n 3 (([c0, c1].drop 1).take (Try.prog.cellsOf 3)) = xs[1]? := hf 1 _ rfl
  rw [Try.cl3] at h0
  replace h0 : DataW.trod enc Try.prog w base spare held n 3 [c0] = xs[0]? := h0
  rw [Try.cl3] at h1
  replace h1 : DataW.trod enc Try.prog w base spare held n 3 [c1] = xs[1]? := h1
  obtain ⟨lo, rfl⟩ := read_int (get_some hxl (by decide)) h0
  obtain ⟨hi, rfl⟩ := read_int (get_some hxl (by decide)) h1
  exact ⟨⟨lo, hi⟩, rfl, rfl⟩
set_option maxRecDepth 100000 in
theorem read_r {fuel : Nat} {cs : List Value} {x : DataW H × List MemPlace} (h : DataW.trod enc Try.prog w base spare held fuel 55 cs = some x) : ∃ c : Rng, cs = cellsR c := by
  obtain ⟨xs, n, rfl, _, hlen, hxl, hf⟩ := DataW.trod_struct Try.underlying55 h
  rw [Try.cl55] at hlen
  match cs, hlen with
  | [c0, c1], _ =>
    have h0 : DataW.trod enc Try.prog w base spare held n 3 (([c0, c1].drop 0).take (Try.prog.cellsOf 3)) = xs[0]? := hf 0 _ rfl
    rw [Try.cl3] at h0
    replace h0 : DataW.trod enc Try.prog w base spare held n 3 [c0] = xs[0]? := h0
    have h1 : DataW.trod enc Try.prog w base spare held n 3 (([c0, c1].drop 1).take (Try.prog.cellsOf 3)) = xs[1]? := hf 1 _ rfl
    rw [Try.cl3] at h1
    replace h1 : DataW.trod enc Try.prog w base spare held n 3 [c1] = xs[1]? := h1
    obtain ⟨a0, rfl⟩ := read_int (get_some hxl (by decide)) h0
    obtain ⟨a1, rfl⟩ := read_int (get_some hxl (by decide)) h1
    exact ⟨⟨a0, a1⟩, rfl⟩
set_option maxRecDepth 100000 in
theorem read_tre {fuel : Nat} {cs : List Value} {x : DataW H × List MemPlace} (h : DataW.trod enc Try.prog w base spare held fuel 94 cs = some x) : ∃ c : Tre, cs = cellsT c := by
  obtain ⟨xs, n, rfl, _, hlen, hxl, hf⟩ := DataW.trod_struct Try.underlying94 h
  rw [Try.cl94] at hlen
  match cs, hlen with
  | [c0, c1, c2, c3, c4, c5, c6], _ =>
    have h0 : DataW.trod enc Try.prog w base spare held n 3 (([c0, c1, c2, c3, c4, c5, c6].drop 0).take (Try.prog.cellsOf 3)) = xs[0]? := hf 0 _ rfl
    rw [Try.cl3] at h0
    replace h0 : DataW.trod enc Try.prog w base spare held n 3 [c0] = xs[0]? := h0
    have h1 : DataW.trod enc Try.prog w base spare held n 3 (([c0, c1, c2, c3, c4, c5, c6].drop 1).take (Try.prog.cellsOf 3)) = xs[1]? := hf 1 _ rfl
    rw [Try.cl3] at h1
    replace h1 : DataW.trod enc Try.prog w base spare held n 3 [c1] = xs[1]? := h1
    have h2 : DataW.trod enc Try.prog w base spare held n 3 (([c0, c1, c2, c3, c4, c5, c6].drop 2).take (Try.prog.cellsOf 3)) = xs[2]? := hf 2 _ rfl
    rw [Try.cl3] at h2
    replace h2 : DataW.trod enc Try.prog w base spare held n 3 [c2] = xs[2]? := h2
    have h3 : DataW.trod enc Try.prog w base spare held n 3 (([c0, c1, c2, c3, c4, c5, c6].drop 3).take (Try.prog.cellsOf 3)) = xs[3]? := hf 3 _ rfl
    rw [Try.cl3] at h3
    replace h3 : DataW.trod enc Try.prog w base spare held n 3 [c3] = xs[3]? := h3
    have h4 : DataW.trod enc Try.prog w base spare held n 3 (([c0, c1, c2, c3, c4, c5, c6].drop 4).take (Try.prog.cellsOf 3)) = xs[4]? := hf 4 _ rfl
    rw [Try.cl3] at h4
    replace h4 : DataW.trod enc Try.prog w base spare held n 3 [c4] = xs[4]? := h4
    have h5 : DataW.trod enc Try.prog w base spare held n 3 (([c0, c1, c2, c3, c4, c5, c6].drop 5).take (Try.prog.cellsOf 3)) = xs[5]? := hf 5 _ rfl
    rw [Try.cl3] at h5
    replace h5 : DataW.trod enc Try.prog w base spare held n 3 [c5] = xs[5]? := h5
    have h6 : DataW.trod enc Try.prog w base spare held n 3 (([c0, c1, c2, c3, c4, c5, c6].drop 6).take (Try.prog.cellsOf 3)) = xs[6]? := hf 6 _ rfl
    rw [Try.cl3] at h6
    replace h6 : DataW.trod enc Try.prog w base spare held n 3 [c6] = xs[6]? := h6
    obtain ⟨a0, rfl⟩ := read_int (get_some hxl (by decide)) h0
    obtain ⟨a1, rfl⟩ := read_int (get_some hxl (by decide)) h1
    obtain ⟨a2, rfl⟩ := read_int (get_some hxl (by decide)) h2
    obtain ⟨a3, rfl⟩ := read_int (get_some hxl (by decide)) h3
    obtain ⟨a4, rfl⟩ := read_int (get_some hxl (by decide)) h4
    obtain ⟨a5, rfl⟩ := read_int (get_some hxl (by decide)) h5
    obtain ⟨a6, rfl⟩ := read_int (get_some hxl (by decide)) h6
    exact ⟨⟨a0, a1, a2, a3, a4, a5, a6⟩, rfl⟩
set_option maxRecDepth 100000 in
theorem read_rep {fuel : Nat} {cs : List Value} {x : DataW H × List MemPlace} (h : DataW.trod enc Try.prog w base spare held fuel 104 cs = some x) : ∃ c : Rep, cs = cellsE c := by
  obtain ⟨xs, n, rfl, _, hlen, hxl, hf⟩ := DataW.trod_struct Try.underlying104 h
  rw [Try.cl104] at hlen
  match cs, hlen with
  | [c0, c1, c2], _ =>
    have h0 : DataW.trod enc Try.prog w base spare held n 3 (([c0, c1, c2].drop 0).take (Try.prog.cellsOf 3)) = xs[0]? := hf 0 _ rfl
    rw [Try.cl3] at h0
    replace h0 : DataW.trod enc Try.prog w base spare held n 3 [c0] = xs[0]? := h0
    have h1 : DataW.trod enc Try.prog w base spare held n 55 (([c0, c1, c2].drop 1).take (Try.prog.cellsOf 55)) = xs[1]? := hf 1 _ rfl
    rw [Try.cl55] at h1
    replace h1 : DataW.trod enc Try.prog w base spare held n 55 [c1, c2] = xs[1]? := h1
    obtain ⟨a0, rfl⟩ := read_int (get_some hxl (by decide)) h0
    obtain ⟨r, rfl, rfl⟩ := read_rng (get_some hxl (by decide)) h1
    exact ⟨⟨a0, r⟩, rfl⟩
theorem read_rngs {fuel : Nat} {v : Value} {x : DataW H × List MemPlace} (h : DataW.trod enc Try.prog w base spare held fuel 22 [v] = some x) : ∃ p n c l, v = .slice p n c ∧ RowsAt cellsR 2 w p n l :=
  read_rows 22 55 Try.underlying22 Try.cl55 cellsR_len (by decide) (⟨0, 0⟩ : Rng) (fun _ _ _ h => read_r h) h
theorem read_tres {fuel : Nat} {v : Value} {x : DataW H × List MemPlace} (h : DataW.trod enc Try.prog w base spare held fuel 23 [v] = some x) : ∃ p n c l, v = .slice p n c ∧ RowsAt cellsT 7 w p n l :=
  read_rows 23 94 Try.underlying23 Try.cl94 cellsT_len (by decide) (⟨0, 0, 0, 0, 0, 0, 0⟩ : Tre) (fun _ _ _ h => read_tre h) h
theorem read_reps {fuel : Nat} {v : Value} {x : DataW H × List MemPlace} (h : DataW.trod enc Try.prog w base spare held fuel 24 [v] = some x) : ∃ p n c l, v = .slice p n c ∧ RowsAt cellsE 3 w p n l :=
  read_rows 24 104 Try.underlying24 Try.cl104 cellsE_len (by decide) (⟨0, ⟨0, 0⟩⟩ : Rep) (fun _ _ _ h => read_rep h) h
set_option maxRecDepth 100000 in
/-- What a programme reads as. -/
theorem read_prg {cs : Array Value} {d : DataW H} {ps : List MemPlace} (h : DataW.Trod enc Try.prog w base spare held 26 (.agg cs) d ps) :
    ∃ (p : Prg) (lp : Option Addr) (ln lc : Nat) (tp : Option Addr) (tn tc : Nat) (rp : Option Addr) (rn rc : Nat), Value.agg cs = .agg #[.slice lp ln lc, .int .i64 p.reserve, .slice tp tn tc, .slice rp rn rc] ∧ PrgAt w p lp ln tp tn rp rn := by
  obtain ⟨fuel, hf0⟩ := h
  obtain ⟨l0⟩ := cs
  simp only [Value.cells] at hf0
  obtain ⟨xs, n, rfl, _, hlen, hxl, hf⟩ := DataW.trod_struct Try.underlying26 hf0
  rw [Try.cl26] at hlen
  match l0, hlen with
  | [c0, c1, c2, c3], _ =>
    have h0 : DataW.trod enc Try.prog w base spare held n 22 (([c0, c1, c2, c3].drop 0).take (Try.prog.cellsOf 22)) = xs[0]? := hf 0 _ rfl
    rw [Try.cl22] at h0
    replace h0 : DataW.trod enc Try.prog w base spare held n 22 [c0] = xs[0]? := h0
    have h1 : DataW.trod enc Try.prog w base spare held n 3 (([c0, c1, c2, c3].drop 1).take (Try.prog.cellsOf 3)) = xs[1]? := hf 1 _ rfl
    rw [Try.cl3] at h1
    replace h1 : DataW.trod enc Try.prog w base spare held n 3 [c1] = xs[1]? := h1
    have h2 : DataW.trod enc Try.prog w base spare held n 23 (([c0, c1, c2, c3].drop 2).take (Try.prog.cellsOf 23)) = xs[2]? := hf 2 _ rfl
    rw [Try.cl23] at h2
    replace h2 : DataW.trod enc Try.prog w base spare held n 23 [c2] = xs[2]? := h2
    have h3 : DataW.trod enc Try.prog w base spare held n 24 (([c0, c1, c2, c3].drop 3).take (Try.prog.cellsOf 24)) = xs[3]? := hf 3 _ rfl
    rw [Try.cl24] at h3
    replace h3 : DataW.trod enc Try.prog w base spare held n 24 [c3] = xs[3]? := h3
    obtain ⟨y0, hy0⟩ := Option.isSome_iff_exists.1 (get_some (i := 0) hxl (by decide))
    rw [hy0] at h0
    obtain ⟨p0, m0, e0, L, rfl, hL0⟩ := read_rngs h0
    obtain ⟨res, rfl⟩ := read_int (get_some hxl (by decide)) h1
    obtain ⟨y2, hy2⟩ := Option.isSome_iff_exists.1 (get_some (i := 2) hxl (by decide))
    rw [hy2] at h2
    obtain ⟨p2, m2, e2, T, rfl, hL2⟩ := read_tres h2
    obtain ⟨y3, hy3⟩ := Option.isSome_iff_exists.1 (get_some (i := 3) hxl (by decide))
    rw [hy3] at h3
    obtain ⟨p3, m3, e3, R, rfl, hL3⟩ := read_reps h3
    exact ⟨⟨L, res, T, R⟩, p0, m0, e0, p2, m2, e2, p3, m3, e3, rfl, ⟨hL0, hL2, hL3⟩⟩
/-- What a report reads as. -/
theorem read_rep1 {cs : Array Value} {d : DataW H} {ps : List MemPlace} (h : DataW.Trod enc Try.prog w base spare held 104 (.agg cs) d ps) : ∃ x : Rep, Value.agg cs = .agg #[.int .i64 x.tr, .int .i64 x.paid.lo, .int .i64 x.paid.hi] := by
  obtain ⟨fuel, hf0⟩ := h
  obtain ⟨l0⟩ := cs
  simp only [Value.cells] at hf0
  obtain ⟨k, hk⟩ := read_rep hf0
  exact ⟨k, by rw [hk]; rfl⟩
def cellsI (x : Int) : List Value := [.int .i64 x]
theorem read_i {fuel : Nat} {cs : List Value} {x : DataW H × List MemPlace} (h : DataW.trod enc Try.prog w base spare held fuel 3 cs = some x) : ∃ c : Int, cs = cellsI c := by
  obtain ⟨n, e, _⟩ := DataW.trod_int Try.underlying3 h
  exact ⟨n, e⟩
theorem rows_ints {w : World} {p : Option Addr} {n : Nat} {l : List Int} (h : RowsAt cellsI 1 w p n l) : IntsAt w p n l := ⟨h.1, fun i hi => by
  have hg : l[i]? = some (l[i]'(by have := h.1; omega)) := List.getElem?_eq_getElem _
  obtain ⟨b, off, hp, _, hc⟩ := h.2 i _ hg
  have := hc 0 _ rfl
  rw [Nat.mul_one, Nat.add_zero] at this
  exact ⟨b, off, hp, by rw [hg]; exact this⟩⟩
theorem read_ints {fuel : Nat} {v : Value} {x : DataW H × List MemPlace} (h : DataW.trod enc Try.prog w base spare held fuel 27 [v] = some x) : ∃ p n c l, v = .slice p n c ∧ IntsAt w p n l := by
  obtain ⟨p, n, c, l, e, hr⟩ := read_rows 27 3 Try.underlying27 Try.cl3 (en := cellsI) (fun _ => rfl) (by decide) (0 : Int) (fun _ _ _ h => read_i h) h
  exact ⟨p, n, c, l, e, rows_ints hr⟩
theorem read_word {fuel : Nat} {cs : List Value} {x : DataW H × List MemPlace} (h : DataW.trod enc Try.prog w base spare held fuel 90 cs = some x) : ∃ n, cs = [.int .u16 n] ∧ 0 ≤ n ∧ n ≤ 65535 := by
  obtain ⟨n, e, _, hw⟩ := DataW.trod_int Try.underlying90 h
  have hb : 0 ≤ n ∧ n ≤ 65535 := by simpa [Lit.wf, IntKind.min, IntKind.max, IntKind.signed, IntKind.bits] using hw
  exact ⟨n, e, hb⟩
theorem read_words {fuel : Nat} {v : Value} {x : DataW H × List MemPlace} (h : DataW.trod enc Try.prog w base spare held fuel 91 [v] = some x) : ∃ p n c l, v = .slice p n c ∧ WordsAt w p n l := by
  rcases DataW.trod_slice Try.underlying91 h with ⟨hcs, _⟩ | ⟨a, len, cap, elems, rest, n, _, hcs, _, _, _, _, hel, hall, _⟩
  · cases hcs; exact ⟨none, 0, 0, [], rfl, rfl, fun i c hi => by simp at hi⟩
  · cases hcs
    have hx : ∀ i, i < len → ∃ z : Int, (0 ≤ z ∧ z ≤ 65535) ∧ w.cell? ((a.add (i * 1)).add 0) = some (.int .u16 z) := by
      intro i hi
      have h1 := hall i hi
      obtain ⟨y, hy⟩ := Option.isSome_iff_exists.1 (get_some hel hi)
      rw [hy, Try.cl90, Option.bind_eq_some_iff] at h1
      obtain ⟨cs, hcs, ht⟩ := h1
      obtain ⟨z, rfl, hz⟩ := read_word ht
      obtain ⟨_, _, hat⟩ := World.cells?_some hcs
      refine ⟨z, hz, ?_⟩
      rw [hat 0 (by decide)]; rfl
    refine ⟨some a, len, cap, (List.range len).map fun i => if h : i < len then Classical.choose (hx i h) else 0, rfl, by simp, fun i z hi => ?_⟩
    have hil : i < len := by have := (List.getElem?_eq_some_iff.1 hi).1; simpa using this
    have hze : z = Classical.choose (hx i hil) := by
      rw [List.getElem?_map, List.getElem?_range hil] at hi
      simp only [Option.map_some, Option.some.injEq, dif_pos hil] at hi
      exact hi.symm
    have hsp := Classical.choose_spec (hx i hil)
    rw [← hze] at hsp
    obtain ⟨b, off, k⟩ := a
    have hspot : k = none := by
      obtain ⟨z', _, h'⟩ := hx 0 (by omega)
      rw [Nat.zero_mul] at h'
      exact World.cell?_spot h'
    subst hspot
    have e : ∀ (o z : Nat), (⟨b, o, none⟩ : Addr).add z = ⟨b, o + z, none⟩ := fun o z => by unfold Addr.add; split <;> simp_all
    have hcell : w.cell? ⟨b, off + i, none⟩ = some (.int .u16 z) := by
      have := hsp.2
      rw [e, e, Nat.mul_one, Nat.add_zero] at this
      exact this
    exact ⟨hsp.1, b, off, rfl, World.block_lt_of_cell? _ _ hcell, hcell⟩
end
end Go.Proofs.Ytaioobhblfnlaaa
