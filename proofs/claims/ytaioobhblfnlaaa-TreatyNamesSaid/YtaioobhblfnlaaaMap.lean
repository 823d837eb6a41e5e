/- Maps whose keys are states and whose elements are any values. No condition. -/
import Derived.Test.YtaioobhblfnlaaaRan
import Derived.Maps.OwnOps
import Derived.Maps.OwnSet
import Derived.DeepKeys4
namespace Go.Proofs.Ytaioobhblfnlaaa
open Go.RowKit

theorem Try.laidOut : laidOutB Try.prog = true := by kernel_rfl

theorem Try.types_big : 100 < Try.prog.types.size := by decide +kernel

theorem Try.cells3 : Try.prog.cellsOf 3 = 1 := by kernel_rfl

theorem wf_i64 {a : Int} (h : -1000000 ≤ a ∧ a ≤ 1000000) : (Lit.int .i64 a).wf = true := by
  simp [Lit.wf, IntKind.min, IntKind.max, IntKind.bits, IntKind.signed]; omega

theorem keyLits_int3 (d : Nat) (a : Int) (h : -1000000 ≤ a ∧ a ≤ 1000000) : Try.prog.keyLits (d + 1) 3 [.int .i64 a] = some [.int .i64 a] := by
  unfold Program.keyLits
  rw [Try.underlying3]
  simp [wf_i64 h]

def anyElem : Value → Option (DataW Unit × List MemPlace) := fun _ => some (.lit (.bool true), [])

/-- Block b of W is a map, of at most n entries, that reads as M. -/
def MapV (W : World) (k b n : Nat) (M : Value → Option Value) : Prop :=
  ∃ es clock, W.heap[b]? = some (.map es clock) ∧ Go.WideElems.Fit (H := Unit) Try.prog k anyElem es clock ∧ es.size ≤ n ∧
    (∀ x ∈ es.toList, M x.key = some x.val) ∧ ∀ key v, M key = some v → ∃ x ∈ es.toList, x.key = key

theorem MapV.made (w : World) (k : Nat) : MapV (w.alloc (.map #[] 0)) k w.heap.size 0 fun _ => none := by
  obtain ⟨es, clock, h1, h2, h3, _⟩ := World.ownsMap_made (H := Unit) w Try.prog k (plainElem Try.prog 4)
  have e : es = #[] := Array.eq_empty_of_size_eq_zero (by omega)
  subst e
  exact ⟨#[], clock, h1, ⟨h2.size, h2.stamped, by simp⟩, by simp, by simp, by simp⟩

theorem MapV.lt {W : World} {k b n : Nat} {M} (h : MapV W k b n M) : b < W.heap.size := by
  obtain ⟨es, clock, hb, _⟩ := h
  exact (Array.getElem?_eq_some_iff.1 hb).1

theorem MapV.kept {W W' : World} {k b n : Nat} {M} (h : MapV W k b n M) (hb : W'.heap[b]? = W.heap[b]?) : MapV W' k b n M := by
  obtain ⟨es, clock, h1, r⟩ := h
  exact ⟨es, clock, hb.trans h1, r⟩

theorem MapV.below {W W' : World} {k b n : Nat} {M} (h : MapV W k b n M) (hb : Below W.heap.size W W') : MapV W' k b n M := h.kept (hb.block b h.lt)

theorem MapV.more {W : World} {k b n n' : Nat} {M : Value → Option Value} (h : MapV W k b n M) (hn : n ≤ n') : MapV W k b n' M := by
  obtain ⟨es, clock, h1, h2, h3, r⟩ := h
  exact ⟨es, clock, h1, h2, by omega, r⟩

theorem MapV.ne {W : World} {k bm nn : Nat} {M : Value → Option Value} (h : MapV W k bm nn M) {a : Addr} {v : Value} (hc : W.cell? a = some v) : a.block ≠ bm := by
  obtain ⟨es, clock, h1, _⟩ := h
  rintro rfl
  simp [World.cell?, h1] at hc

theorem MapV.look {W : World} {k b n t e : Nat} {M} (h : MapV W k b n M) (K : Maps.Keyed Try.prog k) (ht : Try.prog.underlying t = some (.map k e)) {z : Value} (hz : (zeroValue e).run Try.prog W = .ok z W) {key : Value} {kl : Lit} (hkey : keyOf Try.prog k key = some kl) :
    (Instr.lookup t (.map (some b)) key true).run Try.prog W = .ok (.tuple #[(M key).getD z, .bool (M key).isSome]) W := by
  obtain ⟨es, clock, hb, F, _, h1, h2⟩ := h
  rcases Maps.fit_look true K ht hz hb F hkey with ⟨hrun, hno, _⟩ | ⟨e0, y, hm, hk, hrun, _⟩
  · have e : M key = none := by
      cases hM : M key with
      | none => rfl
      | some v =>
        obtain ⟨x, hx, hxk⟩ := h2 key v hM
        exact absurd hxk (hno x hx)
    rw [hrun, e]; rfl
  · have hM := h1 e0 hm
    rw [hk] at hM
    rw [hrun, hM]; rfl

open Classical in
noncomputable def updM (M : Value → Option Value) (key : Value) (v : Value) : Value → Option Value := fun k => if k = key then some v else M k

theorem MapV.put {W : World} {k b n t e : Nat} {M} (h : MapV W k b n M) (K : Maps.Keyed Try.prog k) (ht : Try.prog.underlying t = some (.map k e)) (hn : n < maxLen) {key : Value} {kl : Lit} (hkey : keyOf Try.prog k key = some kl) (v : Value) :
    ∃ W', (Instr.mapUpdate t (.map (some b)) key v).run Try.prog W = .ok () W' ∧ MapV W' k b (n + 1) (updM M key v) ∧ W.grownBy W' (some b) := by
  obtain ⟨es, clock, hb, F, hs, h1, h2⟩ := h
  obtain ⟨es', clock', hrun, F', hput, _, _, hes⟩ := Maps.fit_store (R' := anyElem) K ht hb F (Nat.lt_of_le_of_lt hs hn) (fun _ _ _ _ hz => hz) hkey (rfl : anyElem v = _)
  refine ⟨_, hrun, ⟨es', clock', ChangeMaps.heap_setBlock_same hb _, F', ?_, ?_, ?_⟩, ⟨rfl, rfl, rfl, by simp [ChangeMaps.setBlock], fun i _ hi => ChangeMaps.heap_setBlock_other hb _ (fun e => hi (by rw [e]))⟩⟩
  · have e1 : es'.size = ((es'.toList.map (Go.WideElems.rg Try.prog k anyElem)).foldr DataW.insert []).length := by rw [length_sorted]; simp
    rw [e1, hput]
    unfold ChangeMaps.putKey
    rw [length_insert]
    have e2 := List.length_filter_le (ChangeMaps.notKey kl) ((es.toList.map (Go.WideElems.rg Try.prog k anyElem)).foldr DataW.insert [])
    rw [length_sorted] at e2
    simp at e2
    omega
  · intro x hx
    rcases hes x hx with ⟨hx', hne⟩ | ⟨hk, hv⟩
    · rw [updM, if_neg hne]; exact h1 x hx'
    · rw [updM, if_pos hk, hv]
  · intro key' v' hM
    have back : ∀ p : Lit × DataW Unit, p ∈ ChangeMaps.putKey kl (DataW.lit (H := Unit) (.bool true)) ((es.toList.map (Go.WideElems.rg Try.prog k anyElem)).foldr DataW.insert []) →
        ∃ x ∈ es'.toList, keyOf Try.prog k x.key = some p.1 := by
      intro p hp
      rw [← hput] at hp
      have hp2 := (WideShapes.sorted_perm _).mem_iff.1 hp
      obtain ⟨x, hx, hxp⟩ := List.mem_map.1 hp2
      obtain ⟨y, hy⟩ := F'.reads x hx
      have m1 := Go.WideElems.rd_key hy
      rw [Go.WideElems.rg_of hy] at hxp
      rw [hxp] at m1
      exact ⟨x, hx, m1⟩
    by_cases hk : key' = key
    · obtain ⟨x, hx, hxk⟩ := back (kl, .lit (.bool true)) (by unfold ChangeMaps.putKey; exact ChangeMaps.mem_insert_iff.2 (.inl rfl))
      exact ⟨x, hx, by rw [hk]; exact K.inj hxk hkey⟩
    · rw [updM, if_neg hk] at hM
      obtain ⟨x, hx, hxk⟩ := h2 key' v' hM
      obtain ⟨y, hy⟩ := F.reads x hx
      have m1 := Go.WideElems.rd_key hy
      have hne : y.1 ≠ kl := by
        intro e
        rw [e] at m1
        exact hk (hxk ▸ K.inj m1 hkey)
      have hin : y ∈ ((es.toList.map (Go.WideElems.rg Try.prog k anyElem)).foldr DataW.insert []) := (WideShapes.sorted_perm _).mem_iff.2 (List.mem_map.2 ⟨x, hx, Go.WideElems.rg_of hy⟩)
      obtain ⟨x', hx', hxk'⟩ := back y (by
        unfold ChangeMaps.putKey
        exact ChangeMaps.mem_insert_iff.2 (.inr (List.mem_filter.2 ⟨hin, (Maps.notKey_iff (K.key hkey)).2 hne⟩)))
      exact ⟨x', hx', by rw [← hxk]; exact K.inj hxk' m1⟩
end Go.Proofs.Ytaioobhblfnlaaa
