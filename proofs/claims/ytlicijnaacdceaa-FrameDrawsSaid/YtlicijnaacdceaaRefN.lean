/- The reference: draws and lists of counts -/
import Derived.Test.YtlicijnaacdceaaRefG
import Derived.Deep.LoopGhost
import Derived.Deep.AppendLies
/- Walks over package hailstoneref03, part M: Draw. -/
namespace Go.Proofs.Ytlicijnaacdceaa
open Go.RowKit

theorem hasB_mem : ∀ (l : List Int) (x : Int), hasB l x = true ↔ x ∈ l
  | [], x => by simp [hasB]
  | a :: r, x => by simp [hasB, hasB_mem r x]; constructor <;> (rintro (h | h) <;> simp [h])

/-- The place behind a place. -/
def nxt (L m : Nat) : Nat := if m + 1 = L then 0 else m + 1
/-- The first place, from one on, that was not drawn. -/
def probeG (out : List Int) (L : Nat) : Nat → Nat → Nat
  | 0, m => m
  | f + 1, m => if hasB out m = true then probeG out L f (nxt L m) else m
def ProbeOk (out : List Int) (L : Nat) : Nat → Nat → Prop
  | 0, _ => False
  | f + 1, m => hasB out m = false ∨ ProbeOk out L f (nxt L m)

theorem probe_far (out : List Int) (L : Nat) : ∀ (s m : Nat), m < L → hasB out ((m + s) % L : Nat) = false → ProbeOk out L (s + 1) m
  | 0, m, hm, h => by
    rw [Nat.add_zero, Nat.mod_eq_of_lt hm] at h
    exact .inl h
  | s + 1, m, hm, h => by
    right
    have e : (nxt L m + s) % L = (m + (s + 1)) % L := by
      unfold nxt
      split
      · rename_i h1
        have : m + (s + 1) = s + L := by omega
        rw [this, Nat.add_mod_right, Nat.zero_add]
      · congr 1; omega
    refine probe_far out L s _ ?_ (by rw [e]; exact h)
    unfold nxt; split <;> omega

theorem ProbeOk.more {out : List Int} {L : Nat} : ∀ {f m : Nat}, ProbeOk out L f m → ∀ g, f ≤ g → ProbeOk out L g m
  | 0, _, h, _, _ => h.elim
  | f + 1, m, h, g, hg => by
    obtain ⟨g', rfl⟩ : ∃ g', g = g' + 1 := ⟨g - 1, by omega⟩
    rcases h with h | h
    · exact .inl h
    · exact .inr (h.more g' (by omega))

theorem all_in_length : ∀ (L : Nat) (out : List Int), (∀ m : Nat, m < L → (m : Int) ∈ out) → L ≤ out.length
  | 0, _, _ => by omega
  | L + 1, out, h => by
    have h1 := h L (by omega)
    have h2 := all_in_length L (out.erase (L : Int)) (fun m hm => (List.mem_erase_of_ne (by omega)).2 (h m (by omega)))
    rw [List.length_erase_of_mem h1] at h2
    have := List.length_pos_of_mem h1
    omega

theorem probe_ok (out : List Int) (L m : Nat) (hm : m < L) (ho : out.length < L) : ProbeOk out L L m := by
  have h1 : ∃ j : Nat, j < L ∧ (j : Int) ∉ out := by
    refine Classical.byContradiction fun h => ?_
    have := all_in_length L out (fun j hj => Classical.byContradiction fun hn => h ⟨j, hj, hn⟩)
    omega
  obtain ⟨j, hj, hn⟩ := h1
  have hf : hasB out j = false := by
    cases h : hasB out j
    · rfl
    · exact absurd ((hasB_mem _ _).1 h) hn
  by_cases hjm : m ≤ j
  · refine (probe_far out L (j - m) m hm ?_).more L (by omega)
    rw [show m + (j - m) = j by omega, Nat.mod_eq_of_lt hj]; exact hf
  · refine (probe_far out L (j + L - m) m hm ?_).more L (by omega)
    rw [show m + (j + L - m) = j + L by omega, Nat.add_mod_right, Nat.mod_eq_of_lt hj]; exact hf

theorem probe_lt (out : List Int) (L : Nat) : ∀ (f m : Nat), m < L → probeG out L f m < L
  | 0, m, h => h
  | f + 1, m, h => by
    unfold probeG
    split
    · exact probe_lt out L f _ (by unfold nxt; split <;> omega)
    · exact h

theorem probe_free (out : List Int) (L : Nat) : ∀ (f m : Nat), ProbeOk out L f m → hasB out (probeG out L f m) = false
  | 0, _, h => h.elim
  | f + 1, m, h => by
    unfold probeG
    split
    · rename_i h1
      rcases h with h | h
      · rw [h1] at h; cases h
      · exact probe_free out L f _ h
    · rename_i h1; simpa using h1

/-- The places of a lot: what is left of the draws, the number x, and what was drawn. -/
def drawG (L : Nat) (step : Int) : Nat → Int → Int → List Int → List Int
  | 0, _, _, out => out
  | r + 1, i, x, out => drawG L step r (i + 1) ((31 * x + step + i) % 9973) (out ++ [((probeG out L L ((31 * x + step + i) % 9973 % L).toNat : Nat) : Int)])
def drawL (L : Nat) (seed step draws : Int) : List Int := drawG L step draws.toNat 0 seed []

/-- Block b of W has N bools that can be written. -/
def MarksN (W : World) (N b : Nat) (f : Nat → Bool) : Prop :=
  b < W.heap.size ∧ ∀ k, k < N → W.cell? ⟨b, k, none⟩ = some (.bool (f k)) ∧ W.frozen? ⟨b, k, none⟩ = false

def updN (f : Nat → Bool) (k : Nat) : Nat → Bool := fun j => if j = k then true else f j

theorem MarksN.below {W W' : World} {N b base : Nat} {f : Nat → Bool} (h : MarksN W N b f) (hb : Below base W W') (hlt : b < base) : MarksN W' N b f :=
  ⟨Nat.lt_of_lt_of_le h.1 hb.size, fun k hk => ⟨(hb.cell (p := ⟨b, k, none⟩) hlt).trans (h.2 k hk).1, (hb.frozen (p := ⟨b, k, none⟩) hlt).trans (h.2 k hk).2⟩⟩

theorem MarksN.set {W : World} {N b : Nat} {f : Nat → Bool} (h : MarksN W N b f) {k : Nat} (hk : k < N) : MarksN (W.setCell ⟨b, k, none⟩ (.bool true)) N b (updN f k) := by
  refine ⟨by simp [World.setCell]; exact h.1, fun j hj => ⟨?_, by rw [World.frozen?_setCell]; exact (h.2 j hj).2⟩⟩
  by_cases e : j = k
  · subst e
    rw [World.cell?_setCell_same' _ _ _ (by rw [(h.2 j hj).1]; rfl), updN, if_pos rfl]
  · rw [World.cell?_setCell_other _ _ _ _ (by first | (simp; done) | (simp; omega) | (simp; exact fun h => e h.symm))]; simp [updN, e, (h.2 j hj).1]

theorem MarksN.new9 (w : World) : MarksN (w.alloc (.cells #[.bool false, .bool false, .bool false, .bool false, .bool false, .bool false, .bool false, .bool false, .bool false] 138)) 9 w.heap.size fun _ => false := by
  refine ⟨by simp, fun k hk => ⟨cell_box _ _ _ k _ ?_, ?_⟩⟩
  · match k, hk with
    | 0, _ | 1, _ | 2, _ | 3, _ | 4, _ | 5, _ | 6, _ | 7, _ | 8, _ => rfl
  · have := heap_alloc_new w (.cells #[.bool false, .bool false, .bool false, .bool false, .bool false, .bool false, .bool false, .bool false, .bool false] 138)
    simp only [World.frozen?]
    rw [this]
    rfl

theorem hasB_snoc (l : List Int) (a x : Int) : hasB (l ++ [a]) x = (hasB l x || (a == x)) := by
  induction l with
  | nil => simp [hasB]
  | cons b l ih => simp [hasB, ih, Bool.or_assoc]

/-- What stays in Draw: the field and the lot in their boxes. -/
def Boxed2 (w : World) (cs : Array Value) (T : TypeId) (ds : Array Value) (U : TypeId) (W : World) : Prop := Below (w.heap.size + 2) ((w.alloc (.cells cs T)).alloc (.cells ds U)) W

theorem Boxed2.cell1 {w : World} {cs ds : Array Value} {T U : TypeId} {W : World} (h : Boxed2 w cs T ds U W) (k : Nat) {v : Value} (hk : cs[k]? = some v) : W.cell? ⟨w.heap.size, k, none⟩ = some v :=
  (Below.cell h (p := ⟨w.heap.size, k, none⟩) (by simp)).trans (((Below.refl _ _).alloc (Nat.le_refl _) _ : Below (w.alloc (.cells cs T)).heap.size _ _).cell (p := ⟨w.heap.size, k, none⟩) (by simp) |>.trans (cell_box w cs T k v hk))
theorem Boxed2.cell2 {w : World} {cs ds : Array Value} {T U : TypeId} {W : World} (h : Boxed2 w cs T ds U W) (k : Nat) {v : Value} (hk : ds[k]? = some v) : W.cell? ⟨w.heap.size + 1, k, none⟩ = some v := by
  have := cell_box (w.alloc (.cells cs T)) ds U k v hk
  rw [World.size_alloc] at this
  exact (Below.cell h (p := ⟨w.heap.size + 1, k, none⟩) (by simp)).trans this
theorem Boxed2.below {w : World} {cs ds : Array Value} {T U : TypeId} {W : World} (h : Boxed2 w cs T ds U W) : Below w.heap.size w W :=
  (((Below.refl _ _).alloc (Nat.le_refl _) _).alloc (by simp) _).trans (Below.mono h (by simp))
theorem Boxed2.size {w : World} {cs ds : Array Value} {T U : TypeId} {W : World} (h : Boxed2 w cs T ds U W) : w.heap.size + 2 ≤ W.heap.size := by
  have := Below.size h; simpa using this
theorem Boxed2.step {w : World} {cs ds : Array Value} {T U : TypeId} {W W' : World} (h : Boxed2 w cs T ds U W) (hb : Below (w.heap.size + 2) W W') : Boxed2 w cs T ds U W' := Below.trans h hb

/-- append(out, y), y a number: at the operation; the number of the new block said apart. -/
theorem append_int_at {ops : Array Oper} {rest : List Oper} {o : Oper} {a : Act} {w : World} {Q : Exit → Act → World → Prop} (hgd : o.guard = none) (s x : Operand)
    (ho : o.op = .call { callee := .builtin .append, args := #[s, x], argTypes := #[22, 22] })
    (base N : Nat) (v : Value) (l : List Int) (y : Int) (hown : OwnInts w base v l) (hN : w.heap.size = N) (hs : a.eval s = v) (hx : a.eval x = .slice (some ⟨N, 0, none⟩) 1 1)
    (hlen : l.length ≤ 1000000) (hbase : base ≤ w.heap.size)
    (h : ∀ v' w', OwnInts w' base v' (l ++ [y]) → Below base w w' → wpList Try.prog ops Q rest (a.put o.dst v') w') :
    wpList Try.prog ops Q (o :: rest) a (w.alloc (.cells #[.int .i64 y] 3)) := by
  subst hN
  exact append_int hgd s x ho base v l y hown hs hx hlen hbase h

set_option maxHeartbeats 8000000 in
set_option maxRecDepth 20000 in
theorem draw_any (r cc : Int) (p : Option Addr) (n c : Nat) (seed step draws : Int) (w : World) (hn : n ≤ 9) (hn1 : 1 ≤ n) (hs : 0 ≤ seed) (hs' : seed ≤ 9999) (ht : 0 ≤ step) (ht' : step ≤ 9999) (hd : 0 ≤ draws) (hd' : draws ≤ n) :
    Calls Try.prog 63 #[.agg #[.int .i64 r, .int .i64 cc, .slice p n c], .agg #[.int .i64 seed, .int .i64 step, .int .i64 draws]] w (RetInts w (drawL n seed step draws)) := by
  obtain ⟨D, rfl⟩ : ∃ D : Nat, draws = D := ⟨draws.toNat, by omega⟩
  have HDL : Hid (drawL n seed step D = drawG n step D 0 seed []) := by show _ = _; simp [drawL]
  go_enter Try.func63, Try.ntmps63
  go_wp2
  go_loopw [6, 7, 8] (fun v u i wr => ∃ (k : Nat) (x : Int) (out : List Int) (f : Nat → Bool), k ≤ D ∧ i = .int .i64 k ∧ u = .int .i64 x ∧ 0 ≤ x ∧ x ≤ 9999 ∧ OwnInts wr (w.heap.size + 3) v out ∧ out.length = k ∧ drawG n step (D - k) k x out = drawL n seed step D ∧
      Boxed2 w #[.int .i64 r, .int .i64 cc, .slice p n c] 24 #[.int .i64 seed, .int .i64 step, .int .i64 D] 84 wr ∧ MarksN wr 9 (w.heap.size + 2) f ∧ ∀ j : Nat, j < n → f j = hasB out j) (fun _ _ i _ => D - (intOf i).toNat)
  case atStart =>
    refine ⟨0, seed, [], fun _ => false, by omega, rfl, rfl, hs, hs', ownInts_nil _ _, rfl, HDL.out.symm, (Below.refl _ _).alloc (by simp) _, ?_, fun _ _ => rfl⟩
    have := MarksN.new9 ((w.alloc (.cells #[.int .i64 r, .int .i64 cc, .slice p n c] 24)).alloc (.cells #[.int .i64 seed, .int .i64 step, .int .i64 D] 84))
    simpa using this
  case round =>
    obtain ⟨k, x, out, f, hk, rfl, rfl, hx0, hx1, ho, hol, hr, HB, hM, hf⟩ := hrel
    have HR := hid hr
    have HOL := hid hol
    have HM := hid hM
    have HF := hid hf
    clear hr hol hM hf
    have hs2 := HB.cell1 2 (v := .slice p n c) rfl
    have ht1 := HB.cell2 1 (v := .int .i64 step) rfl
    have ht2 := HB.cell2 2 (v := .int .i64 D) rfl
    by_cases hlt : k < D
    · obtain ⟨x', hx'⟩ : ∃ x' : Nat, (31 * x + step + k) % 9973 = x' := ⟨((31 * x + step + k) % 9973).toNat, by omega⟩
      have hx'1 : x' < 9973 := by omega
      have hmod : x' % n < n := Nat.mod_lt _ (by omega)
      have hcast : ((x' : Int) % n) = ((x' % n : Nat) : Int) := by simp
      have HP := hid (probe_ok out n (x' % n) hmod (by rw [HOL.out]; omega))
      have HPF := hid (probe_free out n n (x' % n) HP.out)
      have HPL := hid (probe_lt out n n (x' % n) hmod)
      have HDG : Hid (drawG n step (D - (k + 1)) (k + 1 : Nat) x' (out ++ [((probeG out n n (x' % n) : Nat) : Int)]) = drawL n seed step D) := by
        have e : D - k = (D - (k + 1)) + 1 := by omega
        show _ = _
        rw [← HR.out, e, drawG, hx', hcast, Int.toNat_natCast]; rfl
      have HX := hid hx'
      have HC := hid hcast
      have hmm : 0 ≤ (31 * x + step + k) % 9973 := Int.emod_nonneg _ (by omega)
      have hnn1 : (1 : Int) ≤ n := by omega
      have hn0 : ¬ (n : Int) = 0 := by omega
      clear hx' hcast
      go_wp2_with fail
      rw [HX.out, HC.out]
      clear hmm
      go_hide hQ
      obtain ⟨wo, rfl⟩ : ∃ wo : World, wo = wr := ⟨_, rfl⟩
      have hxm : x' % n < n := hmod
      generalize x' % n = m0 at *
      go_loopg [9] n (fun g v wr => ∃ m : Nat, m < n ∧ v = .int .i64 m ∧ ProbeOk out n g m ∧ probeG out n g m = probeG out n n m0 ∧ wr = wo)
      case atStart => exact ⟨m0, hmod, rfl, HP.out, rfl, rfl⟩
      case round =>
        obtain ⟨m, hm, rfl, hok, hpr, rfl⟩ := hrel
        have hm9 : m < 9 := by omega
        obtain ⟨q1, q2⟩ := HM.out.2 m hm9
        rw [HF.out m hm] at q1
        cases gk with
        | zero => exact hok.elim
        | succ g =>
          cases hh : hasB out m
          · have hq : Hid (m = probeG out n n m0) := by show _ = _; rw [← hpr, probeG, hh]; simp
            rw [hh] at q1
            clear hok hpr
            go_wp2_with fail
            subst hQ
            have hsz := HM.out.1
            have hos : OwnInts (wr.setCell ⟨w.heap.size + 2, m, none⟩ (.bool true)) (w.heap.size + 3) u6 out := ownsRow_setCell_below ho (by simp) _
            have hbs : w.heap.size + 3 ≤ (wr.setCell ⟨w.heap.size + 2, m, none⟩ (.bool true)).heap.size := by simp [World.setCell]; omega
            have hsn : (wr.setCell ⟨w.heap.size + 2, m, none⟩ (.bool true)).heap.size = wr.heap.size := by simp [World.setCell]
            have hol' : out.length ≤ 1000000 := by have := HOL.out; omega
            have HMS := hid (HM.out.set hm9)
            have HBS : Hid (Boxed2 w #[.int .i64 r, .int .i64 cc, .slice p n c] 24 #[.int .i64 seed, .int .i64 step, .int .i64 D] 84 (wr.setCell ⟨w.heap.size + 2, m, none⟩ (.bool true))) := HB.step (Below.setCell (Below.refl _ _) (by simp) _)
            have HFS : Hid (∀ j : Nat, j < n → updN f m j = hasB (out ++ [(m : Int)]) j) := by
              intro j hj
              rw [hasB_snoc, ← HF.out j hj, updN]
              by_cases e : j = m
              · subst e; simp
              · have : ((m : Int) == j) = false := by simp; omega
                rw [if_neg e, this, Bool.or_false]
            go_wp2_with (at_builtin; refine append_int_at (by rfl) _ _ (by rfl) (w.heap.size + 3) wr.heap.size _ out _ hos hsn (by rfl) (by rfl) hol' hbs ?_; intro v' w' ho' hb')
            go_roundw
            case rel => exact ⟨k + 1, x', _, _, by omega, by go_num, rfl, by omega, by omega, ho', by simp [HOL.out], by rw [hq.out]; exact HDG.out, HBS.out.step (hb'.mono (by omega)), HMS.out.below hb' (by omega), HFS.out⟩
            case measure => simp [intOf]; omega
          · have hok' : ProbeOk out n g (nxt n m) := by
              rcases hok with h | h
              · rw [hh] at h; cases h
              · exact h
            have hpr' : probeG out n g (nxt n m) = probeG out n n m0 := by rw [← hpr, probeG, hh]; simp
            have HO := hid hok'
            have HPR := hid hpr'
            rw [hh] at q1
            clear hok hpr hok' hpr'
            by_cases hmn : m + 1 = n
            · have hmn' : ((m : Int) + 1 == n) = true := by simp; omega
              have HNX : Hid (nxt n m = 0) := by show _ = _; rw [nxt, if_pos hmn]
              clear hmn
              go_wp2_with fail
              go_roundg g
              case measure => omega
              case rel => exact ⟨0, by omega, rfl, HNX.out ▸ HO.out, HNX.out ▸ HPR.out, rfl⟩
            · have hmn' : ((m : Int) + 1 == n) = false := by simp; omega
              have HNX : Hid (nxt n m = m + 1) := by show _ = _; rw [nxt, if_neg hmn]
              go_wp2_with fail
              go_roundg g
              case measure => omega
              case rel => exact ⟨m + 1, by omega, by go_num, HNX.out ▸ HO.out, HNX.out ▸ HPR.out, rfl⟩
    · have hke : D - k = 0 := by omega
      have HFin : Hid (out = drawL n seed step D) := by show _ = _; rw [← HR.out, hke, drawG]
      clear hke
      go_wp2
      go_ret
      exact ⟨_, rfl, HFin.out ▸ ho.mono (by omega), HB.below⟩
end Go.Proofs.Ytlicijnaacdceaa

/- Walks over package hailstoneref03, part N: Foreign. -/
namespace Go.Proofs.Ytlicijnaacdceaa
open Go.RowKit

/-- Two slices that the call owns do not share a block. -/
def Apart (v u : Value) : Prop := ∀ g, v.ownBlock = some g → u.ownBlock = some g → False

theorem Apart.symm {v u : Value} (h : Apart v u) : Apart u v := fun g a b => h g b a

/-- append(out, y), y a number, beside another slice that the call owns. -/
theorem append_int_two {ops : Array Oper} {rest : List Oper} {o : Oper} {a : Act} {w : World} {Q : Exit → Act → World → Prop} (hgd : o.guard = none) (s x : Operand)
    (ho : o.op = .call { callee := .builtin .append, args := #[s, x], argTypes := #[22, 22] })
    (base : Nat) (v : Value) (l : List Int) (y : Int) (hown : OwnInts w base v l) (u : Value) (l2 : List Int) (hown2 : OwnInts w base u l2) (hap : Apart v u) (hs : a.eval s = v) (hx : a.eval x = .slice (some ⟨w.heap.size, 0, none⟩) 1 1)
    (hlen : l.length ≤ 1000000) (hbase : base ≤ w.heap.size)
    (h : ∀ v' w', OwnInts w' base v' (l ++ [y]) → OwnInts w' base u l2 → Apart v' u → Below base w w' → wpList Try.prog ops Q rest (a.put o.dst v') w') :
    wpList Try.prog ops Q (o :: rest) a (w.alloc (.cells #[.int .i64 y] 3)) := by
  obtain ⟨i0, hi, hz0, hz1, hz2⟩ := info_parts Try.info3
  refine wpList_append_lies _ hgd s x 22 ho base 3 i0 (.int .i64 0) 1 8 Try.underlying22 hi hz0 hz1 hz2 rfl (by decide) v l.length _ hs (World.ownsRow.alloc hown _)
    ⟨w.heap.size, 0, none⟩ 1 1 [.int .i64 y] hx rfl (cell_one_new _ _ _) (by simp [Value.oneCell']) (by decide) (by unfold maxLen; omega) (by omega) (by simp; omega) (w.heap.size + 1) (by simp) ?_
  intro g cap w' h1 h2 h3 _
  refine h _ w' ?_ ?_ ?_ ?_
  · unfold OwnInts; simpa using h1
  · refine World.ownsRow.kept (World.ownsRow.alloc hown2 _) h2 ?_
    cases hu : u.ownBlock with
    | none => exact .inl rfl
    | some k => exact .inr (fun e => hap k e.symm hu)
  · intro k e1 e2
    simp only [Value.ownBlock, Option.some.injEq] at e1
    subst e1
    rcases h3 with h3 | h3
    · exact hap _ h3 e2
    · have := (World.ownsRow.lt hown2 _ e2).2
      omega
  · refine ((Below.refl base w).alloc hbase _).grown h2 (by simp; omega) ?_
    intro k hk
    exact (World.ownsRow.lt hown k hk).1

/-- Foreign: what is left of the counts, the places before, and what was found. -/
def foreignG (drawn : List Int) : Int → List Cnt → List Int → List Int → List Int
  | _, [], _, out => out
  | i, c :: r, before, out => foreignG drawn (i + 1) r (before ++ [c.place]) (if (!hasB drawn c.place || hasB before c.place) = true then out ++ [i] else out)
def foreignL (L : Nat) (seed step draws : Int) (cs : List Cnt) : List Int := foreignG (drawL L seed step draws) 0 cs [] []

theorem draw_len (L : Nat) (step : Int) : ∀ (r : Nat) (i x : Int) (out : List Int), (drawG L step r i x out).length = out.length + r
  | 0, _, _, _ => by simp [drawG]
  | r + 1, i, x, out => by rw [drawG, draw_len L step r]; simp; omega

set_option maxHeartbeats 8000000 in
set_option maxRecDepth 20000 in
theorem foreign_any (r cc : Int) (p : Option Addr) (n c : Nat) (seed step draws : Int) (q : Option Addr) (m d : Nat) (cs : List Cnt) (w : World) (hn : n ≤ 9) (hn1 : 1 ≤ n) (hs : 0 ≤ seed) (hs' : seed ≤ 9999) (ht : 0 ≤ step) (ht' : step ≤ 9999) (hd : 0 ≤ draws) (hd' : draws ≤ n) (hcs : CntsAt w q m cs) (hm : m ≤ 100) :
    Calls Try.prog 64 #[.agg #[.int .i64 r, .int .i64 cc, .slice p n c], .agg #[.int .i64 seed, .int .i64 step, .int .i64 draws], .slice q m d] w (RetInts w (foreignL n seed step draws cs)) := by
  have HDR := hid (fun W => draw_any r cc p n c seed step draws W hn hn1 hs hs' ht ht' hd hd')
  have HCS := hid hcs
  have hdl : (drawL n seed step draws).length ≤ 9 := by rw [drawL, draw_len]; simp; omega
  have HFL : Hid (foreignL n seed step draws cs = foreignG (drawL n seed step draws) 0 cs [] []) := rfl
  clear hcs
  generalize drawL n seed step draws = dl at *
  go_enter Try.func64, Try.ntmps64
  go_wp2_with fail
  refine (HDR.out _).mono ?_
  rintro e w1 ⟨v1, rfl, ho1, hb1⟩
  obtain ⟨p1, c1, rfl, hi1⟩ := ho1.slice
  have HB1 : Below (w.heap.size + 2) ((w.alloc (.cells #[.int .i64 r, .int .i64 cc, .slice p n c] 24)).alloc (.cells #[.int .i64 seed, .int .i64 step, .int .i64 draws] 84)) w1 := hb1.mono (by simp)
  have hbw : Below w.heap.size w w1 := (((Below.refl _ _).alloc (Nat.le_refl _) _).alloc (by simp) _).trans (HB1.mono (by omega))
  have HI1 := hid hi1
  have HO1 := hid ho1
  clear hb1 HB1 hi1 ho1
  obtain ⟨B, hB⟩ : ∃ B, w1.heap.size = B := ⟨_, rfl⟩
  have HBB := hid hB
  go_wp2_with fail
  go_loopw [8, 9, 10] (fun u v i wr => ∃ (k : Nat) (bf out : List Int), k ≤ m ∧ i = .int .i64 k ∧ OwnInts wr B u bf ∧ OwnInts wr B v out ∧ Apart u v ∧ bf.length ≤ k ∧ out.length ≤ k ∧ foreignG dl k (cs.drop k) bf out = foreignL n seed step draws cs ∧ Below B w1 wr) (fun _ _ i _ => m - (intOf i).toNat)
  case atStart => exact ⟨0, [], [], by omega, rfl, ownInts_nil _ _, ownInts_nil _ _, fun g h _ => by simp [Value.ownBlock] at h, by simp, by simp, HFL.out.symm, Below.refl _ _⟩
  case round =>
    obtain ⟨k, bf, out, hk, rfl, hu, hv, hap, hl1, hl2, hr, hB1⟩ := hrel
    have HR := hid hr
    have HU := hid hu
    have HV := hid hv
    have HAP := hid hap
    have HB1 := hid hB1
    have hBs : B ≤ wr.heap.size := by have := hB1.size; have := HBB.out; omega
    have hBW : Below w.heap.size w wr := hbw.trans (hB1.mono (by rw [← HBB.out]; exact hbw.size))
    have HBW := hid hBW
    clear hr hB1 hBW
    by_cases hlt : k < m
    · obtain ⟨x, hx, b1, o1, rfl, hb1, hc0, _, _, _⟩ := (HCS.out.below HBW.out).at hlt
      have HD := hid (drop_cnt hx)
      clear hx
      obtain ⟨p2, c2, rfl, hi2⟩ := hu.slice
      have HI2 := hid hi2
      clear hu hi2
      go_wp2_with fail
      refine (has_any _ _ _ dl x.place _ (HI1.out.below (HB1.out.mono (by rw [← HBB.out]; exact Nat.le_refl _))) (by omega)).mono ?_
      rintro e w2 ⟨rfl, rfl⟩
      cases hh : hasB dl x.place
      · have HF : Hid (foreignG dl (k + 1 : Nat) (cs.drop (k + 1)) (bf ++ [x.place]) (out ++ [(k : Int)]) = foreignL n seed step draws cs) := by
          show _ = _; rw [← HR.out, HD.out, foreignG, hh]; rfl
        go_wp2_with (first | (at_builtin; refine append_int_two (by rfl) _ _ (by rfl) B _ out _ HV.out _ bf HU.out HAP.out.symm (by rfl) (by rfl) (by omega) hBs ?_; intro v3 w3 hv3 hu3 hap3 hb3; have hBs3 : B ≤ w3.heap.size := Nat.le_trans hBs hb3.size) | (at_builtin; refine append_int_two (by rfl) _ _ (by rfl) B _ bf _ hu3 _ _ hv3 hap3.symm (by rfl) (by rfl) (by omega) hBs3 ?_; intro u4 w4 hu4 hv4 hap4 hb4))
        go_roundw
        case rel => exact ⟨k + 1, _, _, by omega, by go_num, hu4, hv4, hap4, by simp; omega, by simp; omega, HF.out, (HB1.out.trans hb3).trans hb4⟩
        case measure => simp [intOf]; omega
      · go_wp2_with fail
        refine (has_any _ _ _ bf x.place _ HI2.out (by omega)).mono ?_
        rintro e w2 ⟨rfl, rfl⟩
        cases hh2 : hasB bf x.place
        · have HF : Hid (foreignG dl (k + 1 : Nat) (cs.drop (k + 1)) (bf ++ [x.place]) out = foreignL n seed step draws cs) := by
            show _ = _; rw [← HR.out, HD.out, foreignG, hh, hh2]; rfl
          go_wp2_with (at_builtin; refine append_int_two (by rfl) _ _ (by rfl) B _ bf _ HU.out _ out HV.out HAP.out (by rfl) (by rfl) (by omega) hBs ?_; intro u4 w4 hu4 hv4 hap4 hb4)
          go_roundw
          case rel => exact ⟨k + 1, _, _, by omega, by go_num, hu4, hv4, hap4, by simp; omega, by omega, HF.out, HB1.out.trans hb4⟩
          case measure => simp [intOf]; omega
        · have HF : Hid (foreignG dl (k + 1 : Nat) (cs.drop (k + 1)) (bf ++ [x.place]) (out ++ [(k : Int)]) = foreignL n seed step draws cs) := by
            show _ = _; rw [← HR.out, HD.out, foreignG, hh, hh2]; rfl
          go_wp2_with (first | (at_builtin; refine append_int_two (by rfl) _ _ (by rfl) B _ out _ HV.out _ bf HU.out HAP.out.symm (by rfl) (by rfl) (by omega) hBs ?_; intro v3 w3 hv3 hu3 hap3 hb3; have hBs3 : B ≤ w3.heap.size := Nat.le_trans hBs hb3.size) | (at_builtin; refine append_int_two (by rfl) _ _ (by rfl) B _ bf _ hu3 _ _ hv3 hap3.symm (by rfl) (by rfl) (by omega) hBs3 ?_; intro u4 w4 hu4 hv4 hap4 hb4))
          go_roundw
          case rel => exact ⟨k + 1, _, _, by omega, by go_num, hu4, hv4, hap4, by simp; omega, by simp; omega, HF.out, (HB1.out.trans hb3).trans hb4⟩
          case measure => simp [intOf]; omega
    · have HF : Hid (out = foreignL n seed step draws cs) := by show _ = _; rw [← HR.out, List.drop_of_length_le (by have := HCS.out.1; omega)]; rfl
      go_wp2_with fail
      go_ret
      exact ⟨_, rfl, HF.out ▸ hv.mono (by rw [← HBB.out]; exact hbw.size), HBW.out⟩
end Go.Proofs.Ytlicijnaacdceaa
