/- The reference: numbers, places, lists and bits -/
import Derived.Test.YtlicijnaacdceaaBase
/- Walks over package hailstoneref03, part A: In, within, Has, Many. -/
namespace Go.Proofs.Ytlicijnaacdceaa
open Go.RowKit

set_option maxHeartbeats 400000 in
theorem in_any (n lo hi : Int) (w : World) :
    Calls Try.prog 26 #[.int .i64 n, .int .i64 lo, .int .i64 hi] w fun e w' => e = .returned (.bool (inB n lo hi)) ∧ w' = w := by
  go_enter Try.func26, Try.ntmps26
  by_cases h1 : lo ≤ n <;> by_cases h2 : n ≤ hi
  all_goals
    go_wp2
    go_ret
    exact ⟨ret_bool (by simp [inB, h1, h2]), rfl⟩

set_option maxHeartbeats 400000 in
theorem within_any (n lo hi : Int) (w : World) :
    Calls Try.prog 90 #[.int .i64 n, .int .i64 lo, .int .i64 hi] w fun e w' => e = .returned (.bool (inB n lo hi)) ∧ w' = w := by
  go_enter Try.func90, Try.ntmps90
  by_cases h1 : lo ≤ n <;> by_cases h2 : n ≤ hi
  all_goals
    go_wp2
    go_ret
    exact ⟨ret_bool (by simp [inB, h1, h2]), rfl⟩

/-- Has: the remaining search. -/
def hasB : List Int → Int → Bool
  | [], _ => false
  | a :: r, x => (a == x) || hasB r x

set_option maxHeartbeats 400000 in
theorem has_any (p : Option Addr) (n c : Nat) (l : List Int) (x : Int) (w : World) (hl : IntsAt w p n l) (hn : n ≤ 1000000) :
    Calls Try.prog 65 #[.slice p n c, .int .i64 x] w fun e w' => e = .returned (.bool (hasB l x)) ∧ w' = w := by
  have HL := hid hl
  clear hl
  go_enter Try.func65, Try.ntmps65
  go_wp2
  go_loop [5] (fun i => ∃ k : Nat, k ≤ n ∧ i = .int .i64 k ∧ hasB (l.drop k) x = hasB l x) (fun i => n - (intOf i).toNat)
  case atStart => exact ⟨0, Nat.zero_le _, rfl, rfl⟩
  case round =>
    obtain ⟨k, hk, rfl, hr⟩ := hrel
    have HR := hid hr
    clear hr
    by_cases hlt : k < n
    · obtain ⟨b, off, rfl, hb, hc⟩ := HL.out.at hlt
      have HD := hid (drop_at l k (by have := HL.out.1; omega))
      by_cases hx : l[k]?.getD 0 = x
      · have hx' : (l[k]?.getD 0 == x) = true := by simpa using hx
        have HF : Hid (hasB l x = true) := by show hasB l x = true; rw [← HR.out, HD.out]; simp [hasB, hx]
        clear hx
        go_wp2
        go_ret
        exact ⟨ret_bool HF.out.symm, rfl⟩
      · have hx' : (l[k]?.getD 0 == x) = false := by simpa using hx
        have HF : Hid (hasB (l.drop (k+1)) x = hasB l x) := by show hasB (l.drop (k+1)) x = hasB l x; rw [← HR.out, HD.out]; simp [hasB, hx]
        clear hx
        go_wp2
        go_round
        case rel => exact ⟨k + 1, by omega, by go_num, HF.out⟩
        case measure => simp [intOf]; omega
    · have HF : Hid (hasB l x = false) := by show hasB l x = false; rw [← HR.out, List.drop_of_length_le (by have := HL.out.1; omega)]; rfl
      go_wp2
      go_ret
      exact ⟨ret_bool HF.out.symm, rfl⟩

/-- Many: the product of what is left, at most 4000. -/
def manyG : List Int → Int → Int
  | [], m => m
  | s :: r, m => manyG r (if m * (s + 1) < 4000 then m * (s + 1) else 4000)
def manyL (l : List Int) : Int := manyG l 1

theorem mul_bd {m s : Int} (h0 : 1 ≤ m) (h1 : m ≤ 4000) (h2 : 0 ≤ s) (h3 : s ≤ 9) : 1 ≤ m * (s + 1) ∧ m * (s + 1) ≤ 40000 := by
  have a : m * 1 ≤ m * (s + 1) := Int.mul_le_mul_of_nonneg_left (by omega) (by omega)
  have b : m * (s + 1) ≤ m * 10 := Int.mul_le_mul_of_nonneg_left (by omega) (by omega)
  omega

theorem getD_mem {l : List Int} {k : Nat} (h : k < l.length) : l[k]?.getD 0 ∈ l := by simp [h]

set_option maxHeartbeats 400000 in
theorem many_any (a b : Int) (p : Option Addr) (n c : Nat) (l : List Int) (w : World) (hl : IntsAt w p n l) (hn : n ≤ 100) (hs : ∀ x ∈ l, 0 ≤ x ∧ x ≤ 9) :
    Calls Try.prog 46 #[.agg #[.int .i64 a, .int .i64 b, .slice p n c]] w fun e w' => e = .returned (.int .i64 (manyL l)) ∧ Below w.heap.size w w' := by
  have HS := hid hs
  have HL := hid hl
  clear hs hl
  go_enter Try.func46, Try.ntmps46
  go_wp2
  go_loop [3, 4] (fun m i => ∃ (k : Nat) (x : Int), k ≤ n ∧ i = .int .i64 k ∧ m = .int .i64 x ∧ 1 ≤ x ∧ x ≤ 4000 ∧ manyG (l.drop k) x = manyL l) (fun _ i => n - (intOf i).toNat)
  case atStart => exact ⟨0, 1, Nat.zero_le _, rfl, rfl, by omega, by omega, rfl⟩
  case round =>
    obtain ⟨k, x, hk, rfl, rfl, h0, h1, hr⟩ := hrel
    have HR := hid hr
    clear hr
    by_cases hlt : k < n
    · obtain ⟨blk, off, rfl, hb, hc⟩ := HL.out.at hlt
      have HD := hid (drop_at l k (by have := HL.out.1; omega))
      obtain ⟨hx0, hx9⟩ := HS.out _ (getD_mem (l := l) (k := k) (by have := HL.out.1; omega))
      obtain ⟨hm0, hm1⟩ := mul_bd h0 h1 hx0 hx9
      by_cases hlt4 : x * (l[k]?.getD 0 + 1) < 4000
      · have HF : Hid (manyG (l.drop (k+1)) (x * (l[k]?.getD 0 + 1)) = manyL l) := by
          show _ = _; rw [← HR.out, HD.out, manyG, if_pos hlt4]
        go_wp2
        go_round
        case rel => exact ⟨k + 1, _, by omega, by go_num, rfl, by omega, by omega, HF.out⟩
        case measure => simp [intOf]; omega
      · have HF : Hid (manyG (l.drop (k+1)) 4000 = manyL l) := by
          show _ = _; rw [← HR.out, HD.out, manyG, if_neg hlt4]
        go_wp2
        go_round
        case rel => exact ⟨k + 1, _, by omega, by go_num, rfl, by omega, by omega, HF.out⟩
        case measure => simp [intOf]; omega
    · have HF : Hid (x = manyL l) := by show x = manyL l; rw [← HR.out, List.drop_of_length_le (by have := HL.out.1; omega)]; rfl
      go_wp2
      go_ret
      exact ⟨ret_int HF.out, (Below.refl _ _).alloc (Nat.le_refl _) _⟩
end Go.Proofs.Ytlicijnaacdceaa

/- Walks over package hailstoneref03, part B: a struct in its box; IsListed, IsField. -/
namespace Go.Proofs.Ytlicijnaacdceaa
open Go.RowKit
theorem cell_box (w : World) (cs : Array Value) (T : TypeId) (k : Nat) (v : Value) (h : cs[k]? = some v) : (w.alloc (.cells cs T)).cell? ⟨w.heap.size, k, none⟩ = some v := by
  have := heap_alloc_new w (.cells cs T)
  simp only [World.cell?]
  rw [this]
  simpa using h

/-- wr is w with the box cs at its end, and what came behind it. -/
def Boxed1 (w : World) (cs : Array Value) (T : TypeId) (wr : World) : Prop := Below (w.heap.size + 1) (w.alloc (.cells cs T)) wr

theorem Boxed1.start (w : World) (cs : Array Value) (T : TypeId) : Boxed1 w cs T (w.alloc (.cells cs T)) := Below.refl _ _
theorem Boxed1.cell {w : World} {cs : Array Value} {T : TypeId} {wr : World} (h : Boxed1 w cs T wr) (k : Nat) {v : Value} (hk : cs[k]? = some v) : wr.cell? ⟨w.heap.size, k, none⟩ = some v :=
  (Below.cell h (p := ⟨w.heap.size, k, none⟩) (by simp)).trans (cell_box w cs T k v hk)
theorem Boxed1.size {w : World} {cs : Array Value} {T : TypeId} {wr : World} (h : Boxed1 w cs T wr) : w.heap.size + 1 ≤ wr.heap.size := by
  have := Below.size h; simpa using this
theorem Boxed1.below {w : World} {cs : Array Value} {T : TypeId} {wr : World} (h : Boxed1 w cs T wr) : Below w.heap.size w wr :=
  ((Below.refl _ _).alloc (Nat.le_refl _) _).trans (Below.mono h (by simp))
theorem Boxed1.step {w : World} {cs : Array Value} {T : TypeId} {wr wr' : World} (h : Boxed1 w cs T wr) (hb : Below wr.heap.size wr wr') : Boxed1 w cs T wr' :=
  Below.trans h (hb.mono h.size)
theorem Boxed1.drewN {w : World} {cs : Array Value} {T : TypeId} {wr : World} (h : Boxed1 w cs T wr) (n : Nat) : Boxed1 w cs T (wr.drewN n) := below_drewN h n
theorem Boxed1.alloc {w : World} {cs : Array Value} {T : TypeId} {wr : World} (h : Boxed1 w cs T wr) (o : Obj) : Boxed1 w cs T (wr.alloc o) := Below.alloc h h.size o

def isListedG (stems h : List Int) (k m : Nat) : Bool := allR (fun i => inB (h[i]?.getD 0) 0 (stems[i]?.getD 0)) k m
def isListedB (stems h : List Int) : Bool := decide (h.length = stems.length) && isListedG stems h 0 h.length

set_option maxHeartbeats 400000 in
theorem isListed_any (r cc : Int) (p : Option Addr) (n c : Nat) (l : List Int) (q : Option Addr) (m d : Nat) (h : List Int) (w : World) (hl : IntsAt w p n l) (hh : IntsAt w q m h) (hn : n ≤ 1000000) (hm : m ≤ 1000000) :
    Calls Try.prog 54 #[.agg #[.int .i64 r, .int .i64 cc, .slice p n c], .slice q m d] w fun e w' => e = .returned (.bool (isListedB l h)) ∧ Below w.heap.size w w' := by
  have HL := hid hl
  have HH := hid hh
  clear hl hh
  by_cases hnm : n = m
  · subst hnm
    have HE : Hid (isListedB l h = isListedG l h 0 n) := by
      show _ = _; simp [isListedB, ← HL.out.1, ← HH.out.1]
    go_enter Try.func54, Try.ntmps54
    go_wp2
    go_loopw [5] (fun i wr => ∃ k : Nat, k ≤ n ∧ i = .int .i64 k ∧ isListedG l h k (n - k) = isListedB l h ∧ Boxed1 w #[.int .i64 r, .int .i64 cc, .slice p n c] 24 wr) (fun i _ => n - (intOf i).toNat)
    case atStart => exact ⟨0, Nat.zero_le _, rfl, HE.out.symm, Boxed1.start _ _ _⟩
    case round =>
      obtain ⟨k, hk, rfl, hr, HB⟩ := hrel
      have HR := hid hr
      clear hr
      have hc2 := HB.cell 2 (v := .slice p n c) rfl
      by_cases hlt : k < n
      · obtain ⟨b1, o1, rfl, hb1, hc1⟩ := (HL.out.below HB.below).at hlt
        obtain ⟨b2, o2, rfl, hb2, hc2'⟩ := (HH.out.below HB.below).at hlt
        have HG := hid (allR_go (fun i => inB (h[i]?.getD 0) 0 (l[i]?.getD 0)) k n hlt)
        cases hx : inB (h[k]?.getD 0) 0 (l[k]?.getD 0)
        · have HF : Hid (isListedB l h = false) := by show _ = _; rw [← HR.out, isListedG, HG.out, hx]; rfl
          go_wp2
          go_quiet ((go_at_call 26; exact Calls.quiet_of_same (in_any _ _ _ _)))
          go_wp2
          go_ret
          exact ⟨ret_bool HF.out.symm, (HB.drewN _).below⟩
        · have HF : Hid (isListedG l h (k+1) (n - (k+1)) = isListedB l h) := by show _ = _; rw [← HR.out, isListedG, isListedG, HG.out, hx]; rfl
          go_wp2
          go_quiet ((go_at_call 26; exact Calls.quiet_of_same (in_any _ _ _ _)))
          go_wp2
          go_roundw
          case rel => exact ⟨k + 1, by omega, by go_num, HF.out, HB.drewN _⟩
          case measure => simp [intOf]; omega
      · have HF : Hid (isListedB l h = true) := by show _ = _; rw [← HR.out, isListedG, allR_end _ _ _ hlt]
        go_wp2
        go_ret
        exact ⟨ret_bool HF.out.symm, HB.below⟩
  · have HF : Hid (isListedB l h = false) := by
      show _ = _; simp [isListedB, ← HL.out.1, ← HH.out.1]; intro e; exact absurd e.symm hnm
    have hne : ((m : Int) != n) = true := by simp; omega
    go_enter Try.func54, Try.ntmps54
    go_wp2
    go_ret
    exact ⟨ret_bool HF.out.symm, (Below.refl _ _).alloc (Nat.le_refl _) _⟩

def isFieldB (r c : Int) (l : List Int) : Bool :=
  inB r 1 4 && (inB c 1 4 && (decide (r * c ≤ 9) && (decide ((l.length : Int) = r * c) && l.all fun x => inB x 0 9)))

theorem prod_bd {a b : Int} (h1 : inB a 1 4 = true) (h2 : inB b 1 4 = true) : 1 ≤ a * b ∧ a * b ≤ 16 := by
  simp only [inB, Bool.and_eq_true, decide_eq_true_eq] at h1 h2
  have x : a * 1 ≤ a * b := Int.mul_le_mul_of_nonneg_left (by omega) (by omega)
  have y : a * b ≤ a * 4 := Int.mul_le_mul_of_nonneg_left (by omega) (by omega)
  omega

def fieldR (l : List Int) : Bool := l.all fun x => inB x 0 9

set_option maxHeartbeats 400000 in
theorem isField_any (r cc : Int) (p : Option Addr) (n c : Nat) (l : List Int) (w : World) (hl : IntsAt w p n l) (hn : n ≤ 1000000) :
    Calls Try.prog 60 #[.agg #[.int .i64 r, .int .i64 cc, .slice p n c]] w fun e w' => e = .returned (.bool (isFieldB r cc l)) ∧ Below w.heap.size w w' := by
  have HL := hid hl
  clear hl
  cases h1 : inB r 1 4
  · have HF : Hid (isFieldB r cc l = false) := by show _ = _; simp [isFieldB, h1]
    go_enter Try.func60, Try.ntmps60
    go_wp2_with (go_at_call 26; refine (in_any _ _ _ _).mono ?_; rintro e w' ⟨rfl, rfl⟩)
    go_ret
    exact ⟨ret_bool HF.out.symm, (Below.refl _ _).alloc (Nat.le_refl _) _⟩
  · cases h2 : inB cc 1 4
    · have HF : Hid (isFieldB r cc l = false) := by show _ = _; simp [isFieldB, h1, h2]
      go_enter Try.func60, Try.ntmps60
      go_wp2_with (go_at_call 26; refine (in_any _ _ _ _).mono ?_; rintro e w' ⟨rfl, rfl⟩)
      go_ret
      exact ⟨ret_bool HF.out.symm, (Below.refl _ _).alloc (Nat.le_refl _) _⟩
    · obtain ⟨hp0, hp1⟩ := prod_bd h1 h2
      by_cases h3 : r * cc ≤ 9
      · by_cases h4 : (n : Int) = r * cc
        · have h4' : ((n : Int) != r * cc) = false := by simp [h4]
          have h3' : ¬ 9 < r * cc := by omega
          have HE : Hid (isFieldB r cc l = fieldR l) := by show _ = _; simp [isFieldB, fieldR, h1, h2, h3, ← HL.out.1, h4]
          have H4 := hid h4
          clear h4 h3
          go_enter Try.func60, Try.ntmps60
          go_wp2_with (go_at_call 26; refine (in_any _ _ _ _).mono ?_; rintro e w' ⟨rfl, rfl⟩)
          go_loopw [3] (fun i wr => ∃ k : Nat, k ≤ n ∧ i = .int .i64 k ∧ fieldR (l.drop k) = isFieldB r cc l ∧ Boxed1 w #[.int .i64 r, .int .i64 cc, .slice p n c] 24 wr) (fun i _ => n - (intOf i).toNat)
          case atStart => exact ⟨0, Nat.zero_le _, rfl, HE.out.symm, Boxed1.start _ _ _⟩
          case round =>
            obtain ⟨k, hk, rfl, hr, HB⟩ := hrel
            have HR := hid hr
            clear hr
            have hc2 := HB.cell 2 (v := .slice p n c) rfl
            by_cases hlt : k < n
            · obtain ⟨b1, o1, rfl, hb1, hc1⟩ := (HL.out.below HB.below).at hlt
              have HD := hid (drop_at l k (by have := HL.out.1; omega))
              cases hx : inB (l[k]?.getD 0) 0 9
              · have HF : Hid (isFieldB r cc l = false) := by show _ = _; rw [← HR.out, HD.out]; simp [fieldR, hx]
                go_wp2_with (go_at_call 26; refine (in_any _ _ _ _).mono ?_; rintro e w' ⟨rfl, rfl⟩)
                go_ret
                exact ⟨ret_bool HF.out.symm, HB.below⟩
              · have HF : Hid (fieldR (l.drop (k + 1)) = isFieldB r cc l) := by show _ = _; rw [← HR.out, HD.out]; simp [fieldR, hx]
                go_wp2_with (go_at_call 26; refine (in_any _ _ _ _).mono ?_; rintro e w' ⟨rfl, rfl⟩)
                go_roundw
                case rel => exact ⟨k + 1, by omega, by go_num, HF.out, HB⟩
                case measure => simp [intOf]; omega
            · have HF : Hid (isFieldB r cc l = true) := by show _ = _; rw [← HR.out, List.drop_of_length_le (by have := HL.out.1; omega)]; rfl
              go_wp2
              go_ret
              exact ⟨ret_bool HF.out.symm, HB.below⟩
        · have h4' : ((n : Int) != r * cc) = true := by simp [h4]
          have h3' : ¬ 9 < r * cc := by omega
          have HF : Hid (isFieldB r cc l = false) := by show _ = _; simp [isFieldB, ← HL.out.1, h4]
          clear h4 h3
          go_enter Try.func60, Try.ntmps60
          go_wp2_with (go_at_call 26; refine (in_any _ _ _ _).mono ?_; rintro e w' ⟨rfl, rfl⟩)
          go_ret
          exact ⟨ret_bool HF.out.symm, (Below.refl _ _).alloc (Nat.le_refl _) _⟩
      · have HF : Hid (isFieldB r cc l = false) := by show _ = _; simp [isFieldB, h3]
        have h3' : 9 < r * cc := by omega
        clear h3
        go_enter Try.func60, Try.ntmps60
        go_wp2_with (go_at_call 26; refine (in_any _ _ _ _).mono ?_; rintro e w' ⟨rfl, rfl⟩)
        go_ret
        exact ⟨ret_bool HF.out.symm, (Below.refl _ _).alloc (Nat.le_refl _) _⟩

end Go.Proofs.Ytlicijnaacdceaa

/- Walks over package hailstoneref03, part C: an owned slice of numbers; Nth. -/
namespace Go.Proofs.Ytlicijnaacdceaa
open Go.RowKit

theorem Try.info3 : (Try.prog.info? 3).map (fun i => (i.zero, i.size, i.bytes)) = some (some (.int .i64 0), 1, 8) := by kernel_rfl

/-- v is a slice of numbers that the call owns, in blocks from 'base' on. -/
def OwnInts (w : World) (base : Nat) (v : Value) (l : List Int) : Prop := w.ownsRow base 3 1 v l.length (l.map (Value.int .i64))

theorem ownInts_nil (w : World) (base : Nat) : OwnInts w base (.slice none 0 0) [] := World.ownsRow_nil _ _ _ _

theorem OwnInts.slice {w : World} {base : Nat} {v : Value} {l : List Int} (h : OwnInts w base v l) : ∃ p c, v = .slice p l.length c ∧ IntsAt w p l.length l := by
  rcases h.2 with ⟨rfl, h0⟩ | ⟨g, cap, cur, rfl, hg, hh, hn, hm, hs, ht⟩
  · exact ⟨none, 0, by rw [h0], rfl, fun i hi => by omega⟩
  · refine ⟨_, cap, rfl, rfl, fun i hi => ⟨g, 0, rfl, ?_⟩⟩
    have hc := World.ownsRow.cells h (g := g) rfl i (.int .i64 (l[i]?.getD 0)) (by simp [hi])
    have e : (⟨g, 0, none⟩ : Addr).add i = ⟨g, 0 + i, none⟩ := by unfold Addr.add; split <;> simp_all
    rw [e] at hc; exact hc

theorem OwnInts.mono {w : World} {base base' : Nat} {v : Value} {l : List Int} (h : OwnInts w base v l) (hb : base' ≤ base) : OwnInts w base' v l := by
  refine ⟨h.1, ?_⟩
  rcases h.2 with h0 | ⟨g, cap, cur, hv, hg, r⟩
  · exact .inl h0
  · exact .inr ⟨g, cap, cur, hv, Nat.le_trans hb hg, r⟩

theorem OwnInts.below {w w' : World} {base : Nat} {v : Value} {l : List Int} (h : OwnInts w base v l) (hb : Below w.heap.size w w') : OwnInts w' base v l := by
  refine ⟨h.1, ?_⟩
  rcases h.2 with h0 | ⟨g, cap, cur, hv, hg, hh, r⟩
  · exact .inl h0
  · exact .inr ⟨g, cap, cur, hv, hg, (hb.block g (Array.getElem?_eq_some_iff.1 hh).1).trans hh, r⟩

/-- append(out, y), y a number: at the operation. -/
theorem append_int {ops : Array Oper} {rest : List Oper} {o : Oper} {a : Act} {w : World} {Q : Exit → Act → World → Prop} (hgd : o.guard = none) (s x : Operand)
    (ho : o.op = .call { callee := .builtin .append, args := #[s, x], argTypes := #[22, 22] })
    (base : Nat) (v : Value) (l : List Int) (y : Int) (hown : OwnInts w base v l) (hs : a.eval s = v) (hx : a.eval x = .slice (some ⟨w.heap.size, 0, none⟩) 1 1)
    (hlen : l.length ≤ 1000000) (hbase : base ≤ w.heap.size)
    (h : ∀ v' w', OwnInts w' base v' (l ++ [y]) → Below base w w' → wpList Try.prog ops Q rest (a.put o.dst v') w') :
    wpList Try.prog ops Q (o :: rest) a (w.alloc (.cells #[.int .i64 y] 3)) := by
  obtain ⟨i0, hi, hz0, hz1, hz2⟩ := info_parts Try.info3
  refine wpList_append_own _ hgd s x 22 ho base 3 i0 (.int .i64 0) 1 8 Try.underlying22 hi hz0 hz1 hz2 rfl (by decide) v l.length _ hs (World.ownsRow.alloc hown _)
    ⟨w.heap.size, 0, none⟩ 1 1 [.int .i64 y] hx rfl (cell_one_new _ _ _) (by simp [Value.oneCell']) (by unfold maxLen; omega) (by omega) (by simp; omega) ?_
  intro v' w' h1 h2 _
  refine h v' w' ?_ ?_
  · unfold OwnInts; simpa using h1
  · refine ((Below.refl base w).alloc hbase _).grown h2 (by simp; omega) ?_
    intro k hk
    exact (World.ownsRow.lt hown k hk).1

/-- What is returned: a new slice of numbers. -/
def RetInts (w : World) (l : List Int) (e : Ending) (w' : World) : Prop := ∃ v, e = .returned v ∧ OwnInts w' w.heap.size v l ∧ Below w.heap.size w w'

def nthG : List Int → Int → List Int
  | [], _ => []
  | s :: r, m => m % (s + 1) :: nthG r (m / (s + 1))

theorem Boxed1.step' {w : World} {cs : Array Value} {T : TypeId} {wr wr' : World} (h : Boxed1 w cs T wr) (hb : Below (w.heap.size + 1) wr wr') : Boxed1 w cs T wr' := Below.trans h hb

set_option maxHeartbeats 400000 in
theorem nth_any (r cc : Int) (p : Option Addr) (n c : Nat) (l : List Int) (m : Int) (w : World) (hl : IntsAt w p n l) (hn : n ≤ 100) (hs : ∀ x ∈ l, 0 ≤ x ∧ x ≤ 9) (hm : 0 ≤ m) (hm' : m ≤ 1000000) :
    Calls Try.prog 38 #[.agg #[.int .i64 r, .int .i64 cc, .slice p n c], .int .i64 m] w (RetInts w (nthG l m)) := by
  have HL := hid hl
  have HS := hid hs
  clear hl hs
  go_enter Try.func38, Try.ntmps38
  go_wp2
  go_loopw [1, 5, 6] (fun q v i wr => ∃ (k : Nat) (x : Int) (acc : List Int), k ≤ n ∧ i = .int .i64 k ∧ q = .int .i64 x ∧ 0 ≤ x ∧ x ≤ 1000000 ∧ OwnInts wr (w.heap.size + 1) v acc ∧ acc.length = k ∧ acc ++ nthG (l.drop k) x = nthG l m ∧ Boxed1 w #[.int .i64 r, .int .i64 cc, .slice p n c] 24 wr) (fun _ _ i _ => n - (intOf i).toNat)
  case atStart => exact ⟨0, m, [], Nat.zero_le _, rfl, rfl, hm, hm', ownInts_nil _ _, rfl, rfl, Boxed1.start _ _ _⟩
  case round =>
    obtain ⟨k, x, acc, hk, rfl, rfl, hx0, hx1, ho, ha, hr, HB⟩ := hrel
    have HR := hid hr
    have HA := hid ha
    have hal : acc.length ≤ 1000000 := by omega
    clear hr ha
    have hc2 := HB.cell 2 (v := .slice p n c) rfl
    by_cases hlt : k < n
    · obtain ⟨b1, o1, rfl, hb1, hc0⟩ := HL.out.at hlt
      have hc1 := (HB.below.cell (p := ⟨b1, _, none⟩) hb1).trans hc0
      have HC := hid hc0
      clear hc0
      have HD := hid (drop_at l k (by have := HL.out.1; omega))
      obtain ⟨hy0, hy9⟩ := HS.out _ (getD_mem (l := l) (k := k) (by have := HL.out.1; omega))
      have hdiv0 : 0 ≤ x / (l[k]?.getD 0 + 1) := Int.ediv_nonneg hx0 (by omega)
      have hdiv1 : x / (l[k]?.getD 0 + 1) ≤ 1000000 := Int.le_trans (Int.ediv_le_self _ hx0) hx1
      have HF : Hid ((acc ++ [x % (l[k]?.getD 0 + 1)]) ++ nthG (l.drop (k + 1)) (x / (l[k]?.getD 0 + 1)) = nthG l m) := by
        show _ = _; rw [← HR.out, HD.out, nthG]; simp
      go_wp2_with (at_builtin; refine append_int (by rfl) _ _ (by rfl) (w.heap.size + 1) _ acc _ ho (by rfl) (by rfl) hal HB.size ?_; intro v' w' ho' hb'; have HB' := HB.step' hb'; have hc2' := HB'.cell 2 (v := .slice (some ⟨b1, o1, none⟩) n c) rfl; have hc1' := (HB'.below.cell (p := ⟨b1, _, none⟩) hb1).trans HC.out)
      go_roundw
      case rel => exact ⟨k + 1, _, _, by omega, by go_num, rfl, hdiv0, hdiv1, ho', by simp [HA.out], HF.out, HB'⟩
      case measure => simp [intOf]; omega
    · have HF : Hid (acc = nthG l m) := by show _ = _; rw [← HR.out, List.drop_of_length_le (by have := HL.out.1; omega)]; simp [nthG]
      go_wp2
      go_ret
      exact ⟨_, rfl, HF.out ▸ ho.mono (by omega), HB.below⟩
end Go.Proofs.Ytlicijnaacdceaa

/- Walks over package hailstoneref03, part D: Bits, Before. -/
namespace Go.Proofs.Ytlicijnaacdceaa
open Go.RowKit

def bitB (m : Int) (p : Nat) : Bool := m / 2 ^ p % 2 == 1
def bitsTo (m : Int) (k : Nat) : List Int := ((List.range k).filter (bitB m)).map (fun p : Nat => (p : Int))
def bitsL (m : Int) : List Int := bitsTo m 12

theorem bitsTo_succ (m : Int) (k : Nat) : bitsTo m (k + 1) = bitsTo m k ++ if bitB m k = true then [(k : Int)] else [] := by
  unfold bitsTo
  rw [List.range_succ, List.filter_append, List.map_append]
  congr 1
  by_cases h : bitB m k = true <;> simp [h]

theorem bitsTo_len (m : Int) (k : Nat) : (bitsTo m k).length ≤ k := by
  unfold bitsTo
  rw [List.length_map]
  exact Nat.le_trans (List.length_filter_le _ _) (by simp)

theorem div_pow_zero {m : Int} {k j : Nat} (h0 : 0 ≤ m) (h : m / 2 ^ k ≤ 0) (hj : k ≤ j) : m / 2 ^ j = 0 := by
  have hk : m < 2 ^ k := by
    rcases Int.lt_or_le m (2 ^ k) with h' | h'
    · exact h'
    · have := Int.le_ediv_of_mul_le (a := 1) (b := m) (c := 2 ^ k) (Int.pow_pos (by omega)) (by omega)
      omega
  have hp : (2 : Int) ^ k ≤ 2 ^ j := by have := Nat.pow_le_pow_right (n := 2) (by decide) hj; exact_mod_cast this
  exact Int.ediv_eq_zero_of_lt h0 (by omega)

theorem bitsTo_end {m : Int} {k j : Nat} (h0 : 0 ≤ m) (h : m / 2 ^ k ≤ 0) (hj : k ≤ j) : bitsTo m j = bitsTo m k := by
  induction j with
  | zero => have : k = 0 := by omega
            subst this; rfl
  | succ j ih =>
    by_cases e : k = j + 1
    · subst e; rfl
    · rw [bitsTo_succ, ih (by omega)]
      have := div_pow_zero h0 h (j := j) (by omega)
      simp [bitB, this]

theorem lt_of_div_pow {m : Int} {k : Nat} (h0 : 0 ≤ m) (hm : m < 4096) (h : 0 < m / 2 ^ k) : k < 12 := by
  rcases Nat.lt_or_ge k 12 with h' | h'
  · exact h'
  · have := div_pow_zero (m := m) (k := 12) (j := k) h0 (by have : (2 : Int) ^ 12 = 4096 := by decide
                                                            rw [this]; omega) h'
    omega

set_option maxHeartbeats 400000 in
theorem bits_any (m : Int) (w : World) (hm : 0 ≤ m) (hm' : m < 4096) :
    Calls Try.prog 37 #[.int .i64 m] w (RetInts w (bitsL m)) := by
  go_enter Try.func37, Try.ntmps37
  go_wp2
  go_loopw [3, 4] (fun v i wr => ∃ (k : Nat), k ≤ 12 ∧ i = .int .i64 k ∧ OwnInts wr w.heap.size v (bitsTo m k) ∧ Below w.heap.size w wr) (fun _ i _ => 12 - (intOf i).toNat)
  case atStart => exact ⟨0, by omega, rfl, ownInts_nil _ _, Below.refl _ _⟩
  case round =>
    obtain ⟨k, hk, rfl, ho, hb⟩ := hrel
    have hal : (bitsTo m k).length ≤ 1000000 := Nat.le_trans (bitsTo_len _ _) (by omega)
    by_cases hp : 0 < m / 2 ^ k
    · have hk' := lt_of_div_pow hm hm' hp
      cases hx : bitB m k
      · have HF : Hid (bitsTo m (k + 1) = bitsTo m k) := by show _ = _; rw [bitsTo_succ]; simp [hx]
        have hx' : (m / 2 ^ k % 2 == 1) = false := hx
        clear hx
        go_wp2
        go_roundw
        case rel => exact ⟨k + 1, by omega, by go_num, by rw [HF.out]; exact ho, hb⟩
        case measure => simp [intOf]; omega
      · have HF : Hid (bitsTo m (k + 1) = bitsTo m k ++ [(k : Int)]) := by show _ = _; rw [bitsTo_succ]; simp [hx]
        have hx' : (m / 2 ^ k % 2 == 1) = true := hx
        clear hx
        go_wp2_with (at_builtin; refine append_int (by rfl) _ _ (by rfl) w.heap.size _ (bitsTo m k) _ ho (by rfl) (by rfl) hal hb.size ?_; intro v' w' ho' hb'; have hb2 := hb.trans hb')
        go_roundw
        case rel => exact ⟨k + 1, by omega, by go_num, by rw [HF.out]; exact ho', hb2⟩
        case measure => simp [intOf]; omega
    · have hp' : m / 2 ^ k ≤ 0 := by omega
      have HF : Hid (bitsL m = bitsTo m k) := bitsTo_end hm hp' hk
      clear hp
      go_wp2
      go_ret
      exact ⟨_, rfl, HF.out ▸ ho, hb⟩

theorem ex_drewN3 (w : World) (a b c : Nat) : ∃ n, ((w.drewN a).drewN b).drewN c = w.drewN n := ⟨a + (b + c), by rw [World.drewN_drewN, World.drewN_drewN]⟩
theorem ex_drewN2 (w : World) (a b : Nat) : ∃ n, (w.drewN a).drewN b = w.drewN n := ⟨a + b, by rw [World.drewN_drewN]⟩

/-- Before: what is left of both lists. -/
def beforeB : List Int → List Int → Bool
  | a :: l, b :: h => if a = b then beforeB l h else decide (a < b)
  | [], _ :: _ => true
  | _, [] => false

set_option maxHeartbeats 800000 in
theorem before_any (p : Option Addr) (n c : Nat) (l : List Int) (q : Option Addr) (m d : Nat) (h : List Int) (w : World) (hl : IntsAt w p n l) (hh : IntsAt w q m h) (hn : n ≤ 1000000) (_hm : m ≤ 1000000) :
    Calls Try.prog 80 #[.slice p n c, .slice q m d] w fun e w' => e = .returned (.bool (beforeB l h)) ∧ ∃ nn, w' = w.drewN nn := by
  have HL := hid hl
  have HH := hid hh
  clear hl hh
  go_enter Try.func80, Try.ntmps80
  go_wp2
  go_loopw [5] (fun i wr => ∃ (k : Nat), k ≤ n ∧ k ≤ m ∧ i = .int .i64 k ∧ beforeB (l.drop k) (h.drop k) = beforeB l h ∧ ∃ nn, wr = w.drewN nn) (fun i _ => n - (intOf i).toNat)
  case atStart => exact ⟨0, Nat.zero_le _, Nat.zero_le _, rfl, rfl, 0, rfl⟩
  case round =>
    obtain ⟨k, hk, hk', rfl, hr, nn, hw⟩ := hrel
    subst hw
    have HR := hid hr
    clear hr
    by_cases h1 : k < n
    · by_cases h2 : k < m
      · obtain ⟨b1, o1, rfl, hb1, hc1⟩ := HL.out.at h1
        obtain ⟨b2, o2, rfl, hb2, hc2⟩ := HH.out.at h2
        have HD := hid (drop_at l k (by have := HL.out.1; omega))
        have HD' := hid (drop_at h k (by have := HH.out.1; omega))
        by_cases hx : l[k]?.getD 0 = h[k]?.getD 0
        · have hx' : (l[k]?.getD 0 != h[k]?.getD 0) = false := by simp [hx]
          have HF : Hid (beforeB (l.drop (k + 1)) (h.drop (k + 1)) = beforeB l h) := by show _ = _; rw [← HR.out, HD.out, HD'.out, beforeB, if_pos hx]
          clear hx
          go_wp2
          go_quiet (fail)
          go_wp2
          go_roundw
          case rel => exact ⟨k + 1, by omega, by omega, by go_num, HF.out, _, rfl⟩
          case measure => simp [intOf]; omega
        · have hx' : (l[k]?.getD 0 != h[k]?.getD 0) = true := by simp [hx]
          have HF : Hid (beforeB l h = decide (l[k]?.getD 0 < h[k]?.getD 0)) := by show _ = _; rw [← HR.out, HD.out, HD'.out, beforeB, if_neg hx]
          clear hx
          go_wp2
          go_quiet (fail)
          go_wp2
          go_quiet (fail)
          go_wp2
          go_ret
          exact ⟨ret_bool HF.out.symm, ex_drewN3 _ _ _ _⟩
      · have HF : Hid (beforeB l h = false) := by
          show _ = _; rw [← HR.out, List.drop_of_length_le (l := h) (by have := HH.out.1; omega)]; cases l.drop k <;> rfl
        go_wp2
        go_ret
        exact ⟨ret_bool (by rw [HF.out]; simp; omega), _, rfl⟩
    · have HF : Hid (beforeB l h = decide (k < m)) := by
        show _ = _
        rw [← HR.out, List.drop_of_length_le (l := l) (by have := HL.out.1; omega)]
        by_cases h2 : k < m
        · rw [drop_at h k (by have := HH.out.1; omega)]; simp [beforeB, h2]
        · rw [List.drop_of_length_le (by have := HH.out.1; omega)]; simp [beforeB, h2]
      have hnk : k = n := by omega
      subst hnk
      go_wp2
      go_ret
      exact ⟨ret_bool (by rw [HF.out]), _, rfl⟩
end Go.Proofs.Ytlicijnaacdceaa

/- Walks over package hailstoneref03, part E: Shorter, Same, Share. -/
namespace Go.Proofs.Ytlicijnaacdceaa
open Go.RowKit

def shorterB (l h : List Int) : Bool := decide (l.length < h.length) || (decide (l.length = h.length) && beforeB l h)
def sameB (l h : List Int) : Bool := decide (l.length = h.length) && (!beforeB l h && !beforeB h l)

set_option maxHeartbeats 400000 in
theorem shorter_any (p : Option Addr) (n c : Nat) (l : List Int) (q : Option Addr) (m d : Nat) (h : List Int) (w : World) (hl : IntsAt w p n l) (hh : IntsAt w q m h) (hn : n ≤ 1000000) (hm : m ≤ 1000000) :
    Calls Try.prog 36 #[.slice p n c, .slice q m d] w fun e w' => e = .returned (.bool (shorterB l h)) ∧ ∃ nn, w' = w.drewN nn := by
  have HC := hid (before_any p n c l q m d h w hl hh hn hm)
  have h1 := hl.1
  have h2 := hh.1
  have HF := hid (show shorterB l h = (decide (n < m) || (decide (n = m) && beforeB l h)) by rw [h1, h2]; rfl)
  clear hl hh h1 h2
  by_cases a : n < m
  · go_enter Try.func36, Try.ntmps36
    go_wp2
    go_ret
    exact ⟨ret_bool (by rw [HF.out]; simp [a]), 0, rfl⟩
  · by_cases b : n = m
    · subst b
      go_enter Try.func36, Try.ntmps36
      go_wp2_with (go_at_call 80; refine HC.out.mono ?_; rintro e w' ⟨rfl, nn, rfl⟩)
      go_ret
      exact ⟨ret_bool (by rw [HF.out]; simp), _, rfl⟩
    · have b' : ((n : Int) == m) = false := by simp; omega
      go_enter Try.func36, Try.ntmps36
      go_wp2
      go_ret
      exact ⟨ret_bool (by rw [HF.out]; simp [a, b]), 0, rfl⟩

theorem IntsAt.drewN {w : World} {p n l} (h : IntsAt w p n l) (k : Nat) : IntsAt (w.drewN k) p n l := h.below (below_drewN (Below.refl _ _) k)

set_option maxHeartbeats 400000 in
theorem same_any (p : Option Addr) (n c : Nat) (l : List Int) (q : Option Addr) (m d : Nat) (h : List Int) (w : World) (hl : IntsAt w p n l) (hh : IntsAt w q m h) (hn : n ≤ 1000000) (hm : m ≤ 1000000) :
    Calls Try.prog 29 #[.slice p n c, .slice q m d] w fun e w' => e = .returned (.bool (sameB l h)) ∧ ∃ nn, w' = w.drewN nn := by
  have HC := hid (before_any p n c l q m d h w hl hh hn hm)
  have HD := hid (fun k => before_any q m d h p n c l (w.drewN k) (hh.drewN k) (hl.drewN k) hm hn)
  have h1 := hl.1
  have h2 := hh.1
  have HF := hid (show sameB l h = (decide (n = m) && (!beforeB l h && !beforeB h l)) by rw [h1, h2]; rfl)
  clear hl hh h1 h2
  by_cases b : n = m
  · subst b
    cases h1 : beforeB l h
    · go_enter Try.func29, Try.ntmps29
      go_wp2_with fail
      refine HC.out.mono ?_
      rintro e w' ⟨rfl, nn, rfl⟩
      rw [h1]
      go_wp2_with fail
      refine (HD.out nn).mono ?_
      rintro e w' ⟨rfl, mm, rfl⟩
      go_wp2
      go_ret
      exact ⟨ret_bool (by rw [HF.out]; simp [h1]), _, rfl⟩
    · go_enter Try.func29, Try.ntmps29
      go_wp2_with fail
      refine HC.out.mono ?_
      rintro e w' ⟨rfl, nn, rfl⟩
      rw [h1]
      go_wp2
      go_ret
      exact ⟨ret_bool (by rw [HF.out]; simp [h1]), _, rfl⟩
  · have b' : ((n : Int) == m) = false := by simp; omega
    go_enter Try.func29, Try.ntmps29
    go_wp2
    go_ret
    exact ⟨ret_bool (by rw [HF.out]; simp [b]), 0, rfl⟩

def sumL : List Int → Int
  | [] => 0
  | a :: l => a + sumL l

/-- Share: what is left of both lists. -/
def shareG : List Int → List Int → Int → Int → Int
  | a :: h, s :: l, x, y => shareG h l (x + a) (y + s)
  | _, _, x, y => if y = 0 then 0 else x * 100 / y
def shareL (stems h : List Int) : Int := shareG h stems 0 0

set_option maxHeartbeats 400000 in
theorem share_any (r cc : Int) (p : Option Addr) (n c : Nat) (l : List Int) (q : Option Addr) (d : Nat) (h : List Int) (w : World) (hl : IntsAt w p n l) (hh : IntsAt w q n h) (hn : n ≤ 100)
    (hs : ∀ x ∈ l, 0 ≤ x ∧ x ≤ 9) (ht : ∀ x ∈ h, 0 ≤ x ∧ x ≤ 9) :
    Calls Try.prog 40 #[.agg #[.int .i64 r, .int .i64 cc, .slice p n c], .slice q n d] w fun e w' => e = .returned (.int .i64 (shareL l h)) ∧ Below w.heap.size w w' := by
  have HL := hid hl
  have HH := hid hh
  have HS := hid hs
  have HT := hid ht
  clear hl hh hs ht
  go_enter Try.func40, Try.ntmps40
  go_wp2
  go_loopw [5, 6, 7] (fun x y i wr => ∃ (k : Nat) (a b : Int), k ≤ n ∧ i = .int .i64 k ∧ x = .int .i64 a ∧ y = .int .i64 b ∧ 0 ≤ a ∧ a ≤ 9 * k ∧ 0 ≤ b ∧ b ≤ 9 * k ∧ shareG (h.drop k) (l.drop k) a b = shareL l h ∧ wr = w.alloc (.cells #[.int .i64 r, .int .i64 cc, .slice p n c] 24)) (fun _ _ i _ => n - (intOf i).toNat)
  case atStart => exact ⟨0, 0, 0, by omega, rfl, rfl, rfl, by omega, by omega, by omega, by omega, rfl, rfl⟩
  case round =>
    obtain ⟨k, a, b, hk, rfl, rfl, rfl, a0, a1, b0, b1, hr, rfl⟩ := hrel
    have HR := hid hr
    clear hr
    by_cases hlt : k < n
    · obtain ⟨c1, o1, rfl, hb1, hc1⟩ := HL.out.at hlt
      obtain ⟨c2, o2, rfl, hb2, hc2⟩ := HH.out.at hlt
      obtain ⟨hy0, hy9⟩ := HS.out _ (getD_mem (l := l) (k := k) (by have := HL.out.1; omega))
      obtain ⟨hz0, hz9⟩ := HT.out _ (getD_mem (l := h) (k := k) (by have := HH.out.1; omega))
      have HF : Hid (shareG (h.drop (k + 1)) (l.drop (k + 1)) (a + h[k]?.getD 0) (b + l[k]?.getD 0) = shareL l h) := by
        show _ = _; rw [← HR.out, drop_at h k (by have := HH.out.1; omega), drop_at l k (by have := HL.out.1; omega), shareG]
      go_wp2
      go_roundw
      case rel => exact ⟨k + 1, _, _, by omega, by go_num, rfl, rfl, by omega, by omega, by omega, by omega, HF.out, trivial⟩
      case measure => simp [intOf]; omega
    · have HF : Hid ((if b = 0 then 0 else a * 100 / b) = shareL l h) := by
        show _ = _; rw [← HR.out, List.drop_of_length_le (l := h) (by have := HH.out.1; omega)]; cases l.drop k <;> rfl
      by_cases hb : b = 0
      · have hb' : (b == 0) = true := by simp [hb]
        go_wp2
        go_ret
        exact ⟨ret_int (by rw [← HF.out, if_pos hb]), (Below.refl _ _).alloc (Nat.le_refl _) _⟩
      · have hb' : (b == 0) = false := by simp [hb]
        have hq0 : 0 ≤ a * 100 / b := Int.ediv_nonneg (by omega) b0
        have hq1 : a * 100 / b ≤ 90000 := Int.le_trans (Int.ediv_le_self _ (by omega)) (by omega)
        go_wp2
        go_ret
        exact ⟨ret_int (by rw [← HF.out, if_neg hb]), (Below.refl _ _).alloc (Nat.le_refl _) _⟩
end Go.Proofs.Ytlicijnaacdceaa
