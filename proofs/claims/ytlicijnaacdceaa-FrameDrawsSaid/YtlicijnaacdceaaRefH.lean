/- Walks over package hailstoneref03, part H: Can, Truths. -/
import Derived.Test.YtlicijnaacdceaaRefG
namespace Go.Proofs.Ytlicijnaacdceaa
open Go.RowKit

theorem field_facts' {r cc : Int} {l : List Int} (h : isFieldB r cc l = true) : 1 ≤ r ∧ r ≤ 4 ∧ 1 ≤ cc ∧ cc ≤ 4 ∧ (l.length : Int) = r * cc ∧ 1 ≤ l.length ∧ l.length ≤ 9 ∧ ∀ x ∈ l, 0 ≤ x ∧ x ≤ 9 := by
  simp only [isFieldB, Bool.and_eq_true, decide_eq_true_eq, List.all_eq_true] at h
  obtain ⟨h1, h2, h3, h4, h5⟩ := h
  obtain ⟨a, b⟩ := prod_bd h1 h2
  simp only [inB, Bool.and_eq_true, decide_eq_true_eq] at h1 h2 h5
  exact ⟨h1.1, h1.2, h2.1, h2.2, h4, by omega, by omega, h5⟩

/-- A survey that a statement can use: its field, its Smooth and its counts are valid, and there are few hits. -/
structure OkS (r cc : Int) (l : List Int) (sm : Int) (cs : List Cnt) : Prop where
  field : isFieldB r cc l = true
  sm0 : 0 ≤ sm
  sm9 : sm ≤ 9
  cnt : ∀ c ∈ cs, 0 ≤ c.place ∧ c.place < l.length ∧ 0 ≤ c.lo ∧ c.lo ≤ c.hi ∧ c.hi ≤ 9
  few : cs.length ≤ 12
  many : manyL l ≤ 2000

theorem nth_len : ∀ (l : List Int) (m : Int), (nthG l m).length = l.length
  | [], _ => rfl
  | _ :: r, m => by simp [nthG, nth_len r]

theorem nth_bd : ∀ (l : List Int) (m : Int), (∀ x ∈ l, 0 ≤ x ∧ x ≤ 9) → ∀ x ∈ nthG l m, 0 ≤ x ∧ x ≤ 9
  | [], _, _, x, h => by simp [nthG] at h
  | s :: r, m, hs, x, h => by
    obtain ⟨h0, h9⟩ := hs s (by simp)
    simp only [nthG, List.mem_cons] at h
    rcases h with rfl | h
    · have := Int.emod_nonneg m (show s + 1 ≠ 0 by omega)
      have := Int.emod_lt_of_pos m (show 0 < s + 1 by omega)
      omega
    · exact nth_bd r _ (fun y hy => hs y (by simp [hy])) x h

theorem Boxed1.drew {w : World} {cs : Array Value} {T : TypeId} {wr : World} (h : Boxed1 w cs T wr) : Boxed1 w cs T wr.drew := Below.drew h

/-- Of a survey in its box: what a region reads of it. -/
theorem surv_of {w W : World} {r cc : Int} {p : Option Addr} {n c : Nat} {sm : Int} {q : Option Addr} {m d : Nat} {T : TypeId} (h : Boxed1 w #[.int .i64 r, .int .i64 cc, .slice p n c, .int .i64 sm, .slice q m d] T W) :
    W.cell? ⟨w.heap.size, 0, none⟩ = some (.int .i64 r) ∧ W.cell? ⟨w.heap.size, 1, none⟩ = some (.int .i64 cc) ∧ W.cell? ⟨w.heap.size, 2, none⟩ = some (.slice p n c) ∧
    W.cell? ⟨w.heap.size, 3, none⟩ = some (.int .i64 sm) ∧ W.cell? ⟨w.heap.size, 4, none⟩ = some (.slice q m d) ∧ Boxed1 w #[.int .i64 r, .int .i64 cc, .slice p n c, .int .i64 sm, .slice q m d] T W :=
  ⟨h.cell 0 rfl, h.cell 1 rfl, h.cell 2 rfl, h.cell 3 rfl, h.cell 4 rfl, h⟩

/-- A slice of n numbers comes back, somewhere; nothing that was there has turned. -/
def RetAt (w : World) (n : Nat) (l : List Int) (e : Ending) (w' : World) : Prop := ∃ p c, e = .returned (.slice p n c) ∧ IntsAt w' p n l ∧ Below w.heap.size w w'

theorem RetInts.at {w : World} {n : Nat} {l : List Int} (hn : l.length = n) {e : Ending} {w' : World} (h : RetInts w l e w') : RetAt w n l e w' := by
  obtain ⟨v, rfl, ho, hb⟩ := h
  obtain ⟨p, c, rfl, hi⟩ := ho.slice
  subst hn
  exact ⟨p, c, rfl, hi, hb⟩

/-- f at k, or k + 1, .., or k + m - 1. -/
def anyR (f : Nat → Bool) : Nat → Nat → Bool
  | _, 0 => false
  | k, m + 1 => f k || anyR f (k + 1) m

theorem anyR_go (f : Nat → Bool) (k n : Nat) (h : k < n) : anyR f k (n - k) = (f k || anyR f (k + 1) (n - (k + 1))) := by
  have e : n - k = (n - (k + 1)) + 1 := by omega
  rw [e]; rfl

theorem anyR_end (f : Nat → Bool) (k n : Nat) (h : ¬ k < n) : anyR f k (n - k) = false := by
  have e : n - k = 0 := by omega
  rw [e]; rfl

theorem anyR_iff (f : Nat → Bool) (k m : Nat) : anyR f k m = true ↔ ∃ i, k ≤ i ∧ i < k + m ∧ f i = true := by
  induction m generalizing k with
  | zero => simp [anyR]; intro i h1 h2; omega
  | succ m ih =>
    simp only [anyR, Bool.or_eq_true, ih]
    constructor
    · rintro (h | ⟨i, h1, h2, h3⟩)
      · exact ⟨k, Nat.le_refl _, by omega, h⟩
      · exact ⟨i, by omega, by omega, h3⟩
    · rintro ⟨i, h1, h2, h3⟩
      by_cases e : i = k
      · subst e; exact .inl h3
      · exact .inr ⟨i, by omega, by omega, h3⟩

/-- Those of k, .., k + m - 1 at which f is. -/
def pickR (f : Nat → Bool) : Nat → Nat → List Int
  | _, 0 => []
  | k, m + 1 => (if f k = true then [(k : Int)] else []) ++ pickR f (k + 1) m

theorem pickR_go (f : Nat → Bool) (k n : Nat) (h : k < n) : pickR f k (n - k) = (if f k = true then [(k : Int)] else []) ++ pickR f (k + 1) (n - (k + 1)) := by
  have e : n - k = (n - (k + 1)) + 1 := by omega
  rw [e]; rfl

theorem pickR_end (f : Nat → Bool) (k n : Nat) (h : ¬ k < n) : pickR f k (n - k) = [] := by
  have e : n - k = 0 := by omega
  rw [e]; rfl

theorem many_pos' : ∀ (l : List Int) (x : Int), (∀ y ∈ l, 0 ≤ y ∧ y ≤ 9) → 1 ≤ x → x ≤ 4000 → 1 ≤ manyG l x
  | [], x, _, h, _ => h
  | s :: r, x, hs, h, h' => by
    obtain ⟨h0, h9⟩ := hs s (by simp)
    obtain ⟨a, b⟩ := mul_bd h h' h0 h9
    unfold manyG
    split
    · exact many_pos' r _ (fun y hy => hs y (by simp [hy])) a (by omega)
    · exact many_pos' r _ (fun y hy => hs y (by simp [hy])) (by omega) (by omega)

theorem many_pos (l : List Int) (hs : ∀ y ∈ l, 0 ≤ y ∧ y ≤ 9) : 1 ≤ manyL l := many_pos' l 1 hs (by omega) (by omega)

def truthAt (cc : Int) (l : List Int) (sm : Int) (cs : List Cnt) (out : Int) (i : Nat) : Bool := isTruthB cc l sm cs (nthG l i) out
def canB (cc : Int) (l : List Int) (sm : Int) (cs : List Cnt) (out : Int) : Bool := anyR (truthAt cc l sm cs out) 0 (manyL l).toNat
def truthsL (cc : Int) (l : List Int) (sm : Int) (cs : List Cnt) (out : Int) : List Int := pickR (truthAt cc l sm cs out) 0 (manyL l).toNat

set_option maxHeartbeats 4000000 in
set_option maxRecDepth 20000 in
theorem can_any (r cc : Int) (p : Option Addr) (n c : Nat) (l : List Int) (sm : Int) (q : Option Addr) (m d : Nat) (cs : List Cnt) (out : Int) (w : World) (hl : IntsAt w p n l) (hcs : CntsAt w q m cs) (hok : OkS r cc l sm cs) (ho : 0 ≤ out) (ho' : out < 4096) :
    Calls Try.prog 42 #[.agg #[.int .i64 r, .int .i64 cc, .slice p n c, .int .i64 sm, .slice q m d], .int .i64 out] w fun e w' => e = .returned (.bool (canB cc l sm cs out)) ∧ Below w.heap.size w w' := by
  obtain ⟨f1, f2, f3, f4, f5, f6, f7, f8⟩ := field_facts' hok.field
  have hn : n ≤ 9 := by rw [hl.1]; exact f7
  have hm : m ≤ 12 := by rw [hcs.1]; exact hok.few
  have HM := hid (fun W (hW : Below w.heap.size w W) => many_any r cc p n c l W (hl.below hW) (by omega) f8)
  have HN := hid (fun W (x : Int) (h0 : 0 ≤ x) (h1 : x ≤ 4000) (hW : Below w.heap.size w W) => (nth_any r cc p n c l x W (hl.below hW) (by omega) f8 h0 (by omega)).mono fun e w' h => RetInts.at (n := n) (by rw [nth_len, hl.1]) h)
  have HI := hid (fun W (x : Int) t th (hW : Below w.heap.size w W) (hh : IntsAt W t n (nthG l x)) => isTruth_any r cc p n c l sm q m d cs t th (nthG l x) out W (hl.below hW) (by omega) (hcs.below hW) (by omega) hh f3 f4 ho ho' hok.sm0 hok.sm9 (fun _ => nth_bd l x f8)
    (fun y hy => by have := hok.cnt y hy; have := hl.1; omega))
  have hM1 := many_pos l f8
  have hM2 := hok.many
  obtain ⟨M, hM⟩ : ∃ M : Nat, manyL l = M := ⟨(manyL l).toNat, by omega⟩
  have HMt : Hid ((manyL l).toNat = M) := by show _ = _; omega
  rw [hM] at hM1 hM2
  rw [hM] at HM
  have HML := hid hM
  have hMM : M ≤ 2000 := by omega
  clear hl hcs hok f1 f2 f3 f4 f5 f6 f7 f8 hM hM1 hM2
  have HC : Hid (canB cc l sm cs out = anyR (truthAt cc l sm cs out) 0 M) := by show _ = _; rw [canB, HMt.out]
  go_enter Try.func42, Try.ntmps42
  go_wp2
  go_loopw [5] (fun i wr => ∃ k : Nat, k ≤ M ∧ i = .int .i64 k ∧ anyR (truthAt cc l sm cs out) k (M - k) = canB cc l sm cs out ∧ Boxed1 w #[.int .i64 r, .int .i64 cc, .slice p n c, .int .i64 sm, .slice q m d] 27 wr) (fun i _ => M - (intOf i).toNat)
  case atStart => exact ⟨0, by omega, rfl, HC.out.symm, Boxed1.start _ _ _⟩
  case round =>
    obtain ⟨k, hk, rfl, hr, HB⟩ := hrel
    have HR := hid hr
    clear hr
    have hs0 := HB.cell 0 (v := .int .i64 r) rfl
    have hs1 := HB.cell 1 (v := .int .i64 cc) rfl
    have hs2 := HB.cell 2 (v := .slice p n c) rfl
    go_wp2_with fail
    refine (HM.out _ HB.below).mono ?_
    rintro e w1 ⟨rfl, hb⟩
    have HB1 := HB.step hb
    clear hs0 hs1 hs2
    by_cases hlt : k < M
    · have HG := hid (anyR_go (truthAt cc l sm cs out) k M hlt)
      go_wp2_with fail
      go_region_held3 (fun W => W.cell? ⟨w.heap.size, 0, none⟩ = some (.int .i64 r) ∧ W.cell? ⟨w.heap.size, 1, none⟩ = some (.int .i64 cc) ∧ W.cell? ⟨w.heap.size, 2, none⟩ = some (.slice p n c) ∧ W.cell? ⟨w.heap.size, 3, none⟩ = some (.int .i64 sm) ∧ W.cell? ⟨w.heap.size, 4, none⟩ = some (.slice q m d) ∧ Boxed1 w #[.int .i64 r, .int .i64 cc, .slice p n c, .int .i64 sm, .slice q m d] 27 W)
        (first | exact surv_of (by assumption) | exact surv_of (Boxed1.drew (by assumption)))
        (first | (go_at_call 38; go_split_ands; refine (HN.out _ k (by omega) (by omega) ?_).mono ?_; exact Boxed1.below ‹_›; rintro e w2 ⟨p', c', rfl, hi, hb2⟩; have HB2 := Boxed1.step (by assumption) hb2) | (go_at_call 53; go_split_ands; refine (HI.out _ k _ _ ?_ ?_).mono ?_; exact Boxed1.below ‹_›; assumption; rintro e w3 ⟨rfl, hb3⟩; have HB3 := Boxed1.step (by assumption) hb3))
      all_goals go_wp2
      · have hx : isTruthB cc l sm cs (nthG l k) out = true := by assumption
        have HF : canB cc l sm cs out = true := by rw [← HR.out, HG.out, truthAt, hx]; rfl
        go_ret
        exact ⟨ret_bool HF.symm, HB3.below⟩
      · have hx : isTruthB cc l sm cs (nthG l k) out = false := by assumption
        have HF : anyR (truthAt cc l sm cs out) (k + 1) (M - (k + 1)) = canB cc l sm cs out := by rw [← HR.out, HG.out, truthAt, hx]; rfl
        go_roundw
        case rel => exact ⟨k + 1, by omega, by go_num, HF, HB3⟩
        case measure => simp [intOf]; omega
    · have HF : Hid (canB cc l sm cs out = false) := by show _ = _; rw [← HR.out, anyR_end _ _ _ hlt]
      go_wp2
      go_ret
      exact ⟨ret_bool HF.out.symm, HB1.below⟩

set_option maxHeartbeats 4000000 in
set_option maxRecDepth 20000 in
theorem truths_any (r cc : Int) (p : Option Addr) (n c : Nat) (l : List Int) (sm : Int) (q : Option Addr) (m d : Nat) (cs : List Cnt) (out : Int) (w : World) (hl : IntsAt w p n l) (hcs : CntsAt w q m cs) (hok : OkS r cc l sm cs) (ho : 0 ≤ out) (ho' : out < 4096) :
    Calls Try.prog 34 #[.agg #[.int .i64 r, .int .i64 cc, .slice p n c, .int .i64 sm, .slice q m d], .int .i64 out] w (RetInts w (truthsL cc l sm cs out)) := by
  obtain ⟨f1, f2, f3, f4, f5, f6, f7, f8⟩ := field_facts' hok.field
  have hn : n ≤ 9 := by rw [hl.1]; exact f7
  have hm : m ≤ 12 := by rw [hcs.1]; exact hok.few
  have HM := hid (fun W (hW : Below w.heap.size w W) => many_any r cc p n c l W (hl.below hW) (by omega) f8)
  have HN := hid (fun W (x : Int) (h0 : 0 ≤ x) (h1 : x ≤ 4000) (hW : Below w.heap.size w W) => (nth_any r cc p n c l x W (hl.below hW) (by omega) f8 h0 (by omega)).mono fun e w' h => RetInts.at (n := n) (by rw [nth_len, hl.1]) h)
  have HI := hid (fun W (x : Int) t th (hW : Below w.heap.size w W) (hh : IntsAt W t n (nthG l x)) => isTruth_any r cc p n c l sm q m d cs t th (nthG l x) out W (hl.below hW) (by omega) (hcs.below hW) (by omega) hh f3 f4 ho ho' hok.sm0 hok.sm9 (fun _ => nth_bd l x f8)
    (fun y hy => by have := hok.cnt y hy; have := hl.1; omega))
  have hM1 := many_pos l f8
  have hM2 := hok.many
  obtain ⟨M, hM⟩ : ∃ M : Nat, manyL l = M := ⟨(manyL l).toNat, by omega⟩
  have HMt : Hid ((manyL l).toNat = M) := by show _ = _; omega
  rw [hM] at hM1 hM2
  rw [hM] at HM
  have HML := hid hM
  have hMM : M ≤ 2000 := by omega
  clear hl hcs hok f1 f2 f3 f4 f5 f6 f7 f8 hM hM1 hM2
  have HC : Hid (truthsL cc l sm cs out = pickR (truthAt cc l sm cs out) 0 M) := by show _ = _; rw [truthsL, HMt.out]
  go_enter Try.func34, Try.ntmps34
  go_wp2
  go_loopw [5, 6] (fun v i wr => ∃ (k : Nat) (acc : List Int), k ≤ M ∧ i = .int .i64 k ∧ OwnInts wr (w.heap.size + 1) v acc ∧ acc.length ≤ k ∧ acc ++ pickR (truthAt cc l sm cs out) k (M - k) = truthsL cc l sm cs out ∧ Boxed1 w #[.int .i64 r, .int .i64 cc, .slice p n c, .int .i64 sm, .slice q m d] 27 wr) (fun _ i _ => M - (intOf i).toNat)
  case atStart => exact ⟨0, [], by omega, rfl, ownInts_nil _ _, by simp, HC.out.symm, Boxed1.start _ _ _⟩
  case round =>
    obtain ⟨k, acc, hk, rfl, hown, hal, hr, HB⟩ := hrel
    have HR := hid hr
    clear hr
    have hs0 := HB.cell 0 (v := .int .i64 r) rfl
    have hs1 := HB.cell 1 (v := .int .i64 cc) rfl
    have hs2 := HB.cell 2 (v := .slice p n c) rfl
    go_wp2_with fail
    refine (HM.out _ HB.below).mono ?_
    rintro e w1 ⟨rfl, hb⟩
    have HB1 := HB.step hb
    have ho1 := hown.below hb
    clear hs0 hs1 hs2
    by_cases hlt : k < M
    · have HG := hid (pickR_go (truthAt cc l sm cs out) k M hlt)
      have hal' : acc.length ≤ 1000000 := by omega
      have ho1' : OwnInts w1.drew (w.heap.size + 1) u5 acc := ho1
      go_wp2_with fail
      go_region_held3 (fun W => W.cell? ⟨w.heap.size, 0, none⟩ = some (.int .i64 r) ∧ W.cell? ⟨w.heap.size, 1, none⟩ = some (.int .i64 cc) ∧ W.cell? ⟨w.heap.size, 2, none⟩ = some (.slice p n c) ∧ W.cell? ⟨w.heap.size, 3, none⟩ = some (.int .i64 sm) ∧ W.cell? ⟨w.heap.size, 4, none⟩ = some (.slice q m d) ∧ Boxed1 w #[.int .i64 r, .int .i64 cc, .slice p n c, .int .i64 sm, .slice q m d] 27 W)
        (first | exact surv_of (by assumption) | exact surv_of (Boxed1.drew (by assumption)))
        (first | (go_at_call 38; go_split_ands; refine (HN.out _ k (by omega) (by omega) ?_).mono ?_; exact Boxed1.below ‹_›; rintro e w2 ⟨p', c', rfl, hi, hb2⟩; have HB2 := Boxed1.step (by assumption) hb2; have ho2 := OwnInts.below ‹OwnInts _ _ u5 acc› hb2) | (go_at_call 53; go_split_ands; refine (HI.out _ k _ _ ?_ ?_).mono ?_; exact Boxed1.below ‹_›; assumption; rintro e w3 ⟨rfl, hb3⟩; have HB3 := Boxed1.step (by assumption) hb3; have ho3 := OwnInts.below ‹OwnInts _ _ u5 acc› hb3))
      all_goals go_wp2_with (at_builtin; refine append_int (by rfl) _ _ (by rfl) (w.heap.size + 1) _ acc _ ho3 (by rfl) (by rfl) hal' HB3.size ?_; intro v' w' ho' hb'; have HB' := HB3.step' hb')
      · have hx : isTruthB cc l sm cs (nthG l k) out = true := by assumption
        have HF : (acc ++ [(k : Int)]) ++ pickR (truthAt cc l sm cs out) (k + 1) (M - (k + 1)) = truthsL cc l sm cs out := by rw [← HR.out, HG.out, truthAt, hx]; simp
        go_roundw
        case rel => exact ⟨k + 1, _, by omega, by go_num, ho', by simp; omega, HF, HB'⟩
        case measure => simp [intOf]; omega
      · have hx : isTruthB cc l sm cs (nthG l k) out = false := by assumption
        have HF : acc ++ pickR (truthAt cc l sm cs out) (k + 1) (M - (k + 1)) = truthsL cc l sm cs out := by rw [← HR.out, HG.out, truthAt, hx]; simp
        go_roundw
        case rel => exact ⟨k + 1, _, by omega, by go_num, ho3, by omega, HF, HB3⟩
        case measure => simp [intOf]; omega
    · have HF : Hid (acc = truthsL cc l sm cs out) := by show _ = _; rw [← HR.out, pickR_end _ _ _ hlt]; simp
      go_wp2
      go_ret
      exact ⟨_, rfl, HF.out ▸ ho1.mono (by omega), HB1.below⟩
end Go.Proofs.Ytlicijnaacdceaa
