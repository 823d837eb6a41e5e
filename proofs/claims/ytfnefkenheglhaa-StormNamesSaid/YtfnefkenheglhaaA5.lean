/- Whether a storm is valid: Fault of the reference, CheckStorm of the program. No condition. -/
import Derived.Test.YtfnefkenheglhaaA4
namespace Go.Proofs.Ytfnefkenheglhaa
open Go.RowKit

set_option maxRecDepth 20000 in
set_option maxHeartbeats 1000000 in
theorem notcard_any (s : Sto) (p : Option Addr) (n c : Nat) (k : Crd) (B : Nat) (w : World) (hw : -1000000 ≤ s.wide) (hw' : s.wide ≤ 1000000) (hh : -1000000 ≤ s.high) (hh' : s.high ≤ 1000000) (hB : w.cell? ⟨B, 0, none⟩ = some (.func (.func 99) #[.agg #[.int .i64 s.wide, .int .i64 s.high, .int .i64 s.fall, .int .i64 s.a.lo, .int .i64 s.a.hi, .int .i64 s.b.lo, .int .i64 s.b.hi, .int .i64 s.half.lo, .int .i64 s.half.hi, .int .i64 s.peak.lo, .int .i64 s.peak.hi, .slice p n c]] #[])) :
    Calls Try.prog 124 #[.agg #[.int .i64 k.x.lo, .int .i64 k.x.hi, .int .i64 k.y.lo, .int .i64 k.y.hi, .bool k.hail, .int .i64 k.size.lo, .int .i64 k.size.hi], .pointer (some ⟨B, 0, none⟩)] w fun e w' => e = .returned (.bool (!cardB s k)) ∧ Below w.heap.size w w' := by
  have hlt := World.block_lt_of_cell? w _ hB
  go_enter Try.func124, Try.ntmps124
  go_wp2_with fail
  refine (card_any _ _ _ _ k _ hw hw' hh hh').mono ?_
  rintro e w1 ⟨rfl, hb⟩
  have HB : Boxed1 w #[.int .i64 k.x.lo, .int .i64 k.x.hi, .int .i64 k.y.lo, .int .i64 k.y.hi, .bool k.hail, .int .i64 k.size.lo, .int .i64 k.size.hi] 119 w1 := hb.mono (by simp)
  go_wp2
  go_ret
  exact ⟨rfl, HB.below⟩

/-- IndexFunc: the first place, from one on, at which f is; -1 if there is none. -/
def findG {α : Type} (f : α → Bool) : Int → List α → Int
  | _, [] => -1
  | i, a :: r => if f a = true then i else findG f (i + 1) r

theorem findG_all {α : Type} (f : α → Bool) : ∀ (i : Int) (l : List α), 0 ≤ i → decide (0 ≤ findG (fun x => !f x) i l) = !(l.all f)
  | i, [], _ => by simp [findG]
  | i, a :: r, h => by
    unfold findG
    cases hf : f a
    · simp [hf, h]
    · have := findG_all f (i + 1) r (by omega)
      simp [hf]
      simpa using this

set_option maxRecDepth 20000 in
set_option maxHeartbeats 1000000 in
theorem indexCrd_any (s : Sto) (p : Option Addr) (n c : Nat) (q : Option Addr) (m d : Nat) (cs : List Crd) (B : Nat) (w : World) (hw : -1000000 ≤ s.wide) (hw' : s.wide ≤ 1000000) (hh : -1000000 ≤ s.high) (hh' : s.high ≤ 1000000) (hm : m ≤ 1000000) (hcs : CrdsAt w q m cs) (hB : w.cell? ⟨B, 0, none⟩ = some (.func (.func 99) #[.agg #[.int .i64 s.wide, .int .i64 s.high, .int .i64 s.fall, .int .i64 s.a.lo, .int .i64 s.a.hi, .int .i64 s.b.lo, .int .i64 s.b.hi, .int .i64 s.half.lo, .int .i64 s.half.hi, .int .i64 s.peak.lo, .int .i64 s.peak.hi, .slice p n c]] #[])) :
    Calls Try.prog 127 #[.slice q m d, .func (.func 124) #[] #[.pointer (some ⟨B, 0, none⟩)]] w fun e w' => e = .returned (.int .i64 (findG (fun x => !cardB s x) 0 cs)) ∧ Below w.heap.size w w' := by
  have hlt := World.block_lt_of_cell? w _ hB
  have HN := hid (fun (x : Crd) W (hW : Below w.heap.size w W) => notcard_any s p n c x B W hw hw' hh hh' ((hW.cell (p := ⟨B, 0, none⟩) hlt).trans hB))
  have HCS := hid hcs
  clear hcs hB
  go_enter Try.func127, Try.ntmps127
  go_wp2
  go_loopw [5, 8] (fun _ i wr => ∃ k : Nat, k ≤ m ∧ i = .int .i64 k ∧ findG (fun x => !cardB s x) k (cs.drop k) = findG (fun x => !cardB s x) 0 cs ∧ Below w.heap.size w wr) (fun _ i _ => m - (intOf i).toNat)
  case atStart => exact ⟨0, by omega, rfl, rfl, Below.refl _ _⟩
  case round =>
    obtain ⟨k, hk, rfl, hr, hb⟩ := hrel
    have HR := hid hr
    clear hr
    by_cases hlt : k < m
    · obtain ⟨x, hx, b1, o1, rfl, hb1, hc0, hc1, hc2, hc3, hc4, hc5, hc6⟩ := (HCS.out.below hb).at hlt
      have HD := hid (drop_at' hx)
      clear hx
      cases hp : (!cardB s x)
      · have HF : Hid (findG (fun x => !cardB s x) ((k + 1 : Nat) : Int) (cs.drop (k + 1)) = findG (fun x => !cardB s x) 0 cs) := by show _ = _; rw [← HR.out, HD.out, findG]; simp only [hp]; rfl
        go_wp2_with (go_at_call 124; refine (HN.out x _ ?_).mono ?_; exact hb; rintro e w1 ⟨rfl, hb2⟩)
        go_roundw
        case rel => exact ⟨k + 1, by omega, by go_num, HF.out, hb.trans (hb2.mono hb.size)⟩
        case measure => simp [intOf]; omega
      · have HF : Hid ((k : Int) = findG (fun x => !cardB s x) 0 cs) := by show _ = _; rw [← HR.out, HD.out, findG]; simp only [hp]; rfl
        go_wp2_with (go_at_call 124; refine (HN.out x _ ?_).mono ?_; exact hb; rintro e w1 ⟨rfl, hb2⟩)
        go_ret
        exact ⟨ret_int HF.out, hb.trans (hb2.mono hb.size)⟩
    · have HF : Hid (-1 = findG (fun x => !cardB s x) 0 cs) := by show _ = _; rw [← HR.out, List.drop_of_length_le (by have := HCS.out.1; omega)]; rfl
      go_wp2
      go_ret
      exact ⟨ret_int HF.out, hb⟩

set_option maxRecDepth 20000 in
set_option maxHeartbeats 1000000 in
theorem containsCrd_any (s : Sto) (p : Option Addr) (n c : Nat) (q : Option Addr) (m d : Nat) (cs : List Crd) (B : Nat) (w : World) (hw : -1000000 ≤ s.wide) (hw' : s.wide ≤ 1000000) (hh : -1000000 ≤ s.high) (hh' : s.high ≤ 1000000) (hm : m ≤ 1000000) (hcs : CrdsAt w q m cs) (hB : w.cell? ⟨B, 0, none⟩ = some (.func (.func 99) #[.agg #[.int .i64 s.wide, .int .i64 s.high, .int .i64 s.fall, .int .i64 s.a.lo, .int .i64 s.a.hi, .int .i64 s.b.lo, .int .i64 s.b.hi, .int .i64 s.half.lo, .int .i64 s.half.hi, .int .i64 s.peak.lo, .int .i64 s.peak.hi, .slice p n c]] #[])) :
    Calls Try.prog 123 #[.slice q m d, .func (.func 124) #[] #[.pointer (some ⟨B, 0, none⟩)]] w fun e w' => e = .returned (.bool (!(cs.all (cardB s)))) ∧ Below w.heap.size w w' := by
  have HC := hid (indexCrd_any s p n c q m d cs B w hw hw' hh hh' hm hcs hB)
  have HF := hid (findG_all (cardB s) 0 cs (by omega))
  clear hcs hB
  go_enter Try.func123, Try.ntmps123
  go_wp2_with fail
  refine HC.out.mono ?_
  rintro e w1 ⟨rfl, hb⟩
  generalize findG (fun x => !cardB s x) 0 cs = z at *
  go_wp2
  go_ret
  exact ⟨ret_bool HF.out, hb⟩

set_option maxRecDepth 20000 in
set_option maxHeartbeats 1000000 in
theorem allCrd_any (s : Sto) (p : Option Addr) (n c : Nat) (q : Option Addr) (m d : Nat) (cs : List Crd) (w : World) (hw : -1000000 ≤ s.wide) (hw' : s.wide ≤ 1000000) (hh : -1000000 ≤ s.high) (hh' : s.high ≤ 1000000) (hm : m ≤ 1000000) (hcs : CrdsAt w q m cs) :
    Calls Try.prog 101 #[.slice q m d, .func (.func 99) #[.agg #[.int .i64 s.wide, .int .i64 s.high, .int .i64 s.fall, .int .i64 s.a.lo, .int .i64 s.a.hi, .int .i64 s.b.lo, .int .i64 s.b.hi, .int .i64 s.half.lo, .int .i64 s.half.hi, .int .i64 s.peak.lo, .int .i64 s.peak.hi, .slice p n c]] #[]] w fun e w' => e = .returned (.bool (cs.all (cardB s))) ∧ Below w.heap.size w w' := by
  have HC := hid (containsCrd_any s p n c q m d cs w.heap.size (w.alloc (.cells #[.func (.func 99) #[.agg #[.int .i64 s.wide, .int .i64 s.high, .int .i64 s.fall, .int .i64 s.a.lo, .int .i64 s.a.hi, .int .i64 s.b.lo, .int .i64 s.b.hi, .int .i64 s.half.lo, .int .i64 s.half.hi, .int .i64 s.peak.lo, .int .i64 s.peak.hi, .slice p n c]] #[]] 152)) hw hw' hh hh' hm (hcs.alloc _) (cell_box _ _ _ 0 _ rfl))
  clear hcs
  have hmf : ∀ (fn : Fn) (first cap : Array Value) (w : World), (Instr.makeFunc fn first cap).run Try.prog w = .ok (.func fn first cap) w := fun _ _ _ _ => rfl
  go_enter Try.func101, Try.ntmps101
  go_wp2_with fail
  refine HC.out.mono ?_
  rintro e w1 ⟨rfl, hb⟩
  go_wp2
  go_ret
  exact ⟨ret_bool (by simp), ((Below.refl _ _).alloc (Nat.le_refl _) _).trans (hb.mono (by simp))⟩

theorem card_of {w W : World} {s : Sto} {b1 o1 : Nat} {n c : Nat} {T : TypeId} {j : Nat} {x : Crd} (hc : CrdsAt w (some ⟨b1, o1, none⟩) n s.cards) (hx : s.cards[j]? = some x) (h : Boxed1 w #[.int .i64 s.wide, .int .i64 s.high, .int .i64 s.fall, .int .i64 s.a.lo, .int .i64 s.a.hi, .int .i64 s.b.lo, .int .i64 s.b.hi, .int .i64 s.half.lo, .int .i64 s.half.hi, .int .i64 s.peak.lo, .int .i64 s.peak.hi, .slice (some ⟨b1, o1, none⟩) n c] T W) :
    W.cell? ⟨w.heap.size, 0, none⟩ = some (.int .i64 s.wide) ∧ W.cell? ⟨w.heap.size, 1, none⟩ = some (.int .i64 s.high) ∧ W.cell? ⟨w.heap.size, 2, none⟩ = some (.int .i64 s.fall) ∧ W.cell? ⟨w.heap.size, 3, none⟩ = some (.int .i64 s.a.lo) ∧ W.cell? ⟨w.heap.size, 4, none⟩ = some (.int .i64 s.a.hi) ∧ W.cell? ⟨w.heap.size, 5, none⟩ = some (.int .i64 s.b.lo) ∧ W.cell? ⟨w.heap.size, 6, none⟩ = some (.int .i64 s.b.hi) ∧ W.cell? ⟨w.heap.size, 7, none⟩ = some (.int .i64 s.half.lo) ∧ W.cell? ⟨w.heap.size, 8, none⟩ = some (.int .i64 s.half.hi) ∧ W.cell? ⟨w.heap.size, 9, none⟩ = some (.int .i64 s.peak.lo) ∧ W.cell? ⟨w.heap.size, 10, none⟩ = some (.int .i64 s.peak.hi) ∧ W.cell? ⟨w.heap.size, 11, none⟩ = some (.slice (some ⟨b1, o1, none⟩) n c) ∧ W.cell? ⟨b1, o1 + j * 7, none⟩ = some (.int .i64 x.x.lo) ∧ W.cell? ⟨b1, o1 + j * 7 + 1, none⟩ = some (.int .i64 x.x.hi) ∧ W.cell? ⟨b1, o1 + j * 7 + 2, none⟩ = some (.int .i64 x.y.lo) ∧ W.cell? ⟨b1, o1 + j * 7 + 3, none⟩ = some (.int .i64 x.y.hi) ∧ W.cell? ⟨b1, o1 + j * 7 + 4, none⟩ = some (.bool x.hail) ∧ W.cell? ⟨b1, o1 + j * 7 + 5, none⟩ = some (.int .i64 x.size.lo) ∧ W.cell? ⟨b1, o1 + j * 7 + 6, none⟩ = some (.int .i64 x.size.hi) ∧ Boxed1 w #[.int .i64 s.wide, .int .i64 s.high, .int .i64 s.fall, .int .i64 s.a.lo, .int .i64 s.a.hi, .int .i64 s.b.lo, .int .i64 s.b.hi, .int .i64 s.half.lo, .int .i64 s.half.hi, .int .i64 s.peak.lo, .int .i64 s.peak.hi, .slice (some ⟨b1, o1, none⟩) n c] T W := by
  have k := StoAt.of h.cell
  obtain ⟨b, o, e, _, h0, h1, h2, h3, h4, h5, h6⟩ := (hc.below h.below).2 j x hx
  cases e
  exact ⟨k.c0, k.c1, k.c2, k.c3, k.c4, k.c5, k.c6, k.c7, k.c8, k.c9, k.c10, k.c11, h0, h1, h2, h3, h4, h5, h6, h⟩

theorem fault_big {s : Sto} (h : 12 < s.wide ∨ 12 < s.high ∨ 6 < s.cards.length) : faultS s = 3 := by rw [faultS, if_pos h]
theorem fault_arg {s : Sto} (h : ¬ (12 < s.wide ∨ 12 < s.high ∨ 6 < s.cards.length)) (h2 : sidesB s = false ∨ rangesB s = false ∨ s.cards.all (cardB s) = false) : faultS s = 1 := by
  rw [faultS, if_neg h, if_neg]
  rintro ⟨a, b, c⟩
  rcases h2 with h2 | h2 | h2 <;> simp_all
theorem fault_many {s : Sto} (h : ¬ (12 < s.wide ∨ 12 < s.high ∨ 6 < s.cards.length)) (h1 : sidesB s = true) (h2 : rangesB s = true) (h3 : s.cards.all (cardB s) = true) : faultS s = if 2000 < manyS s then 3 else 0 := by
  rw [faultS, if_neg h, if_pos ⟨h1, h2, h3⟩]
theorem sides_iff {s : Sto} : sidesB s = true ↔ 2 ≤ s.wide ∧ 1 ≤ s.high ∧ inB s.fall 0 4 = true := by
  simp [sidesB]
theorem sides_no {s : Sto} (h : s.wide < 2 ∨ s.high < 1 ∨ inB s.fall 0 4 = false) : sidesB s = false := by
  cases e : sidesB s
  · rfl
  · obtain ⟨a, b, c⟩ := sides_iff.1 e
    rcases h with h | h | h
    · omega
    · omega
    · rw [c] at h; cases h

set_option maxRecDepth 20000 in
set_option maxHeartbeats 1000000 in
theorem checkStorm_any (s : Sto) (p : Option Addr) (n c : Nat) (w : World) (hcs : CrdsAt w p n s.cards) :
    Calls Try.prog 54 #[.agg #[.int .i64 s.wide, .int .i64 s.high, .int .i64 s.fall, .int .i64 s.a.lo, .int .i64 s.a.hi, .int .i64 s.b.lo, .int .i64 s.b.hi, .int .i64 s.half.lo, .int .i64 s.half.hi, .int .i64 s.peak.lo, .int .i64 s.peak.hi, .slice p n c]] w fun e w' => e = .returned (.int .i64 (faultS s)) ∧ Below w.heap.size w w' := by
  have HL := hid hcs.1
  have HCS := hid hcs
  clear hcs
  have hmf : ∀ (fn : Fn) (first cap : Array Value) (w : World), (Instr.makeFunc fn first cap).run Try.prog w = .ok (.func fn first cap) w := fun _ _ _ _ => rfl
  by_cases h1 : 12 < s.wide
  · have HF : Hid (faultS s = 3) := by show _ = _; exact fault_big (.inl h1)
    go_enter Try.func54, Try.ntmps54
    go_wp2_with fail
    go_ret
    exact ⟨ret_int HF.out.symm, ((Below.refl _ _).alloc (Nat.le_refl _) _)⟩
  by_cases h2 : 12 < s.high
  · have HF : Hid (faultS s = 3) := by show _ = _; exact fault_big (.inr (.inl h2))
    go_enter Try.func54, Try.ntmps54
    go_wp2_with fail
    go_ret
    exact ⟨ret_int HF.out.symm, ((Below.refl _ _).alloc (Nat.le_refl _) _)⟩
  by_cases h3 : 6 < n
  · have HF : Hid (faultS s = 3) := by show _ = _; exact fault_big (.inr (.inr (by have := HL.out; omega)))
    go_enter Try.func54, Try.ntmps54
    go_wp2_with fail
    go_ret
    exact ⟨ret_int HF.out.symm, ((Below.refl _ _).alloc (Nat.le_refl _) _)⟩
  have hno : ¬ (12 < s.wide ∨ 12 < s.high ∨ 6 < s.cards.length) := by have := HL.out; omega
  have HNO := hid hno
  clear hno
  by_cases h4 : s.wide < 2
  · have HF : Hid (faultS s = 1) := by show _ = _; exact fault_arg HNO.out (.inl (sides_no (.inl h4)))
    go_enter Try.func54, Try.ntmps54
    go_wp2_with fail
    go_ret
    exact ⟨ret_int HF.out.symm, ((Below.refl _ _).alloc (Nat.le_refl _) _)⟩
  by_cases h5 : s.high < 1
  · have HF : Hid (faultS s = 1) := by show _ = _; exact fault_arg HNO.out (.inl (sides_no (.inr (.inl h5))))
    go_enter Try.func54, Try.ntmps54
    go_wp2_with fail
    go_ret
    exact ⟨ret_int HF.out.symm, ((Below.refl _ _).alloc (Nat.le_refl _) _)⟩
  cases h6 : inB s.fall 0 4
  · have HF : Hid (faultS s = 1) := by show _ = _; exact fault_arg HNO.out (.inl (sides_no (.inr (.inr h6))))
    go_enter Try.func54, Try.ntmps54
    go_wp2_with (go_at_call 74; refine (within_any _ _ _ _).mono ?_; rintro e w' ⟨rfl, rfl⟩)
    go_ret
    exact ⟨ret_int HF.out.symm, ((Below.refl _ _).alloc (Nat.le_refl _) _)⟩
  · have HS : Hid (sidesB s = true) := by show _ = _; exact sides_iff.2 ⟨by omega, by omega, h6⟩
    have q1 : IntKind.i64.wrap (s.high - 1) = s.high - 1 := IntWalk.i64_in _ (by omega)
    go_enter Try.func54, Try.ntmps54
    go_wp2_with (go_at_call 74; refine (within_any _ _ _ _).mono ?_; rintro e w' ⟨rfl, rfl⟩)
    (with_reducible refine (of_any _ _ _ _).mono ?_)
    rintro e w1 ⟨rfl, hb⟩
    have HB1 : Boxed1 w #[.int .i64 s.wide, .int .i64 s.high, .int .i64 s.fall, .int .i64 s.a.lo, .int .i64 s.a.hi, .int .i64 s.b.lo, .int .i64 s.b.hi, .int .i64 s.half.lo, .int .i64 s.half.hi, .int .i64 s.peak.lo, .int .i64 s.peak.hi, .slice p n c] 35 w1 := hb.mono (by simp)
    clear hb
    have k1 := (StoAt.of HB1.cell).c1
    have k5 := (StoAt.of HB1.cell).c5
    have k6 := (StoAt.of HB1.cell).c6
    cases r0 : s.a.of 0 (s.high - 1)
    · have HF : Hid (faultS s = 1) := by show _ = _; exact fault_arg HNO.out (.inr (.inl (by simp [rangesB, r0])))
      go_wp2_with fail
      go_ret
      exact ⟨ret_int HF.out.symm, HB1.below⟩
    · skip
      go_wp2_with fail
      (with_reducible refine (of_any _ _ _ _).mono ?_)
      rintro e w2 ⟨rfl, hb⟩
      have HB2 := HB1.step hb
      clear k1 k5 k6
      clear hb
      have k1 := (StoAt.of HB2.cell).c1
      have k7 := (StoAt.of HB2.cell).c7
      have k8 := (StoAt.of HB2.cell).c8
      cases r1 : s.b.of 0 (s.high - 1)
      · have HF : Hid (faultS s = 1) := by show _ = _; exact fault_arg HNO.out (.inr (.inl (by simp [rangesB, r0, r1])))
        go_wp2_with fail
        go_ret
        exact ⟨ret_int HF.out.symm, HB2.below⟩
      · skip
        go_wp2_with fail
        (with_reducible refine (of_any _ _ _ _).mono ?_)
        rintro e w3 ⟨rfl, hb⟩
        have HB3 := HB2.step hb
        clear k1 k7 k8
        clear hb
        have k1 := (StoAt.of HB3.cell).c1
        have k9 := (StoAt.of HB3.cell).c9
        have k10 := (StoAt.of HB3.cell).c10
        cases r2 : s.half.of 0 3
        · have HF : Hid (faultS s = 1) := by show _ = _; exact fault_arg HNO.out (.inr (.inl (by simp [rangesB, r0, r1, r2])))
          go_wp2_with fail
          go_ret
          exact ⟨ret_int HF.out.symm, HB3.below⟩
        · skip
          go_wp2_with fail
          (with_reducible refine (of_any _ _ _ _).mono ?_)
          rintro e w4 ⟨rfl, hb⟩
          have HB4 := HB3.step hb
          clear k1 k9 k10
          clear hb
          have k11 := (StoAt.of HB4.cell).c11
          have k0 := (StoAt.of HB4.cell).c0
          have k1 := (StoAt.of HB4.cell).c1
          have k2 := (StoAt.of HB4.cell).c2
          have k3 := (StoAt.of HB4.cell).c3
          have k4 := (StoAt.of HB4.cell).c4
          have k5 := (StoAt.of HB4.cell).c5
          have k6 := (StoAt.of HB4.cell).c6
          have k7 := (StoAt.of HB4.cell).c7
          have k8 := (StoAt.of HB4.cell).c8
          have k9 := (StoAt.of HB4.cell).c9
          have k10 := (StoAt.of HB4.cell).c10
          cases r3 : s.peak.of 1 9
          · have HF : Hid (faultS s = 1) := by show _ = _; exact fault_arg HNO.out (.inr (.inl (by simp [rangesB, r0, r1, r2, r3])))
            go_wp2_with fail
            go_ret
            exact ⟨ret_int HF.out.symm, HB4.below⟩
          · skip
            have hr : rangesB s = true := by simp [rangesB, r0, r1, r2, r3]
            have HR := hid hr
            go_wp2_with fail
            (with_reducible refine (allCrd_any _ _ _ _ _ _ _ _ _ (by omega) (by omega) (by omega) (by omega) (by omega) (HCS.out.below HB4.below)).mono ?_)
            rintro e w5 ⟨rfl, hb⟩
            have HB5 := HB4.step hb
            clear hb k11 k0 k1 k2 k3 k4 k5 k6 k7 k8 k9 k10
            have k0 := (StoAt.of HB5.cell).c0
            have k1 := (StoAt.of HB5.cell).c1
            have k2 := (StoAt.of HB5.cell).c2
            have k3 := (StoAt.of HB5.cell).c3
            have k4 := (StoAt.of HB5.cell).c4
            have k5 := (StoAt.of HB5.cell).c5
            have k6 := (StoAt.of HB5.cell).c6
            have k7 := (StoAt.of HB5.cell).c7
            have k8 := (StoAt.of HB5.cell).c8
            have k9 := (StoAt.of HB5.cell).c9
            have k10 := (StoAt.of HB5.cell).c10
            have k11 := (StoAt.of HB5.cell).c11
            cases r4 : s.cards.all (cardB s)
            · have HF : Hid (faultS s = 1) := by show _ = _; exact fault_arg HNO.out (.inr (.inr r4))
              go_wp2_with fail
              go_ret
              exact ⟨ret_int HF.out.symm, HB5.below⟩
            · have HF : Hid (faultS s = if 2000 < manyS s then 3 else 0) := by show _ = _; exact fault_many HNO.out HS.out HR.out r4
              clear hr
              go_wp2_with fail
              (with_reducible refine (manyP_any _ _ _ _ _ HR.out (by omega)).mono ?_)
              rintro e w6 ⟨rfl, hb⟩
              have HB6 := HB5.step hb
              clear hb
              by_cases h7 : 2000 < manyS s
              · have HF2 : Hid (faultS s = 3) := by show _ = _; rw [HF.out, if_pos h7]
                go_wp2_with fail
                go_ret
                exact ⟨ret_int HF2.out.symm, HB6.below⟩
              · have HF2 : Hid (faultS s = 0) := by show _ = _; rw [HF.out, if_neg h7]
                go_wp2_with fail
                go_ret
                exact ⟨ret_int HF2.out.symm, HB6.below⟩

set_option maxRecDepth 20000 in
set_option maxHeartbeats 1000000 in
theorem fault_any (s : Sto) (p : Option Addr) (n c : Nat) (w : World) (hcs : CrdsAt w p n s.cards) :
    Calls Try.prog 55 #[.agg #[.int .i64 s.wide, .int .i64 s.high, .int .i64 s.fall, .int .i64 s.a.lo, .int .i64 s.a.hi, .int .i64 s.b.lo, .int .i64 s.b.hi, .int .i64 s.half.lo, .int .i64 s.half.hi, .int .i64 s.peak.lo, .int .i64 s.peak.hi, .slice p n c]] w fun e w' => e = .returned (.int .i64 (faultS s)) ∧ Below w.heap.size w w' := by
  have HL := hid hcs.1
  have HCS := hid hcs
  clear hcs
  by_cases h1 : 12 < s.wide
  · have HF : Hid (faultS s = 3) := by show _ = _; exact fault_big (.inl h1)
    go_enter Try.func55, Try.ntmps55
    go_wp2_with fail
    go_ret
    exact ⟨ret_int HF.out.symm, ((Below.refl _ _).alloc (Nat.le_refl _) _)⟩
  by_cases h2 : 12 < s.high
  · have HF : Hid (faultS s = 3) := by show _ = _; exact fault_big (.inr (.inl h2))
    go_enter Try.func55, Try.ntmps55
    go_wp2_with fail
    go_ret
    exact ⟨ret_int HF.out.symm, ((Below.refl _ _).alloc (Nat.le_refl _) _)⟩
  by_cases h3 : 6 < n
  · have HF : Hid (faultS s = 3) := by show _ = _; exact fault_big (.inr (.inr (by have := HL.out; omega)))
    go_enter Try.func55, Try.ntmps55
    go_wp2_with fail
    go_ret
    exact ⟨ret_int HF.out.symm, ((Below.refl _ _).alloc (Nat.le_refl _) _)⟩
  have hno : ¬ (12 < s.wide ∨ 12 < s.high ∨ 6 < s.cards.length) := by have := HL.out; omega
  have HNO := hid hno
  clear hno
  by_cases h4 : s.wide < 2
  · have HF : Hid (faultS s = 1) := by show _ = _; exact fault_arg HNO.out (.inl (sides_no (.inl h4)))
    go_enter Try.func55, Try.ntmps55
    go_wp2_with fail
    go_ret
    exact ⟨ret_int HF.out.symm, ((Below.refl _ _).alloc (Nat.le_refl _) _)⟩
  by_cases h5 : s.high < 1
  · have HF : Hid (faultS s = 1) := by show _ = _; exact fault_arg HNO.out (.inl (sides_no (.inr (.inl h5))))
    go_enter Try.func55, Try.ntmps55
    go_wp2_with fail
    go_ret
    exact ⟨ret_int HF.out.symm, ((Below.refl _ _).alloc (Nat.le_refl _) _)⟩
  cases h6 : inB s.fall 0 4
  · have HF : Hid (faultS s = 1) := by show _ = _; exact fault_arg HNO.out (.inl (sides_no (.inr (.inr h6))))
    go_enter Try.func55, Try.ntmps55
    go_wp2_with (go_at_call 24; refine (in_any _ _ _ _).mono ?_; rintro e w' ⟨rfl, rfl⟩)
    go_ret
    exact ⟨ret_int HF.out.symm, ((Below.refl _ _).alloc (Nat.le_refl _) _)⟩
  · have HS : Hid (sidesB s = true) := by show _ = _; exact sides_iff.2 ⟨by omega, by omega, h6⟩
    have q1 : IntKind.i64.wrap (s.high - 1) = s.high - 1 := IntWalk.i64_in _ (by omega)
    go_enter Try.func55, Try.ntmps55
    go_wp2_with (go_at_call 24; refine (in_any _ _ _ _).mono ?_; rintro e w' ⟨rfl, rfl⟩)
    (with_reducible refine (withinR_any _ _ _ _).mono ?_)
    rintro e w1 ⟨rfl, hb⟩
    have HB1 : Boxed1 w #[.int .i64 s.wide, .int .i64 s.high, .int .i64 s.fall, .int .i64 s.a.lo, .int .i64 s.a.hi, .int .i64 s.b.lo, .int .i64 s.b.hi, .int .i64 s.half.lo, .int .i64 s.half.hi, .int .i64 s.peak.lo, .int .i64 s.peak.hi, .slice p n c] 26 w1 := hb.mono (by simp)
    clear hb
    have k1 := (StoAt.of HB1.cell).c1
    have k5 := (StoAt.of HB1.cell).c5
    have k6 := (StoAt.of HB1.cell).c6
    cases r0 : s.a.of 0 (s.high - 1)
    · have HF : Hid (faultS s = 1) := by show _ = _; exact fault_arg HNO.out (.inr (.inl (by simp [rangesB, r0])))
      go_wp2_with fail
      go_ret
      exact ⟨ret_int HF.out.symm, HB1.below⟩
    · skip
      go_wp2_with fail
      (with_reducible refine (withinR_any _ _ _ _).mono ?_)
      rintro e w2 ⟨rfl, hb⟩
      have HB2 := HB1.step hb
      clear k1 k5 k6
      clear hb
      have k1 := (StoAt.of HB2.cell).c1
      have k7 := (StoAt.of HB2.cell).c7
      have k8 := (StoAt.of HB2.cell).c8
      cases r1 : s.b.of 0 (s.high - 1)
      · have HF : Hid (faultS s = 1) := by show _ = _; exact fault_arg HNO.out (.inr (.inl (by simp [rangesB, r0, r1])))
        go_wp2_with fail
        go_ret
        exact ⟨ret_int HF.out.symm, HB2.below⟩
      · skip
        go_wp2_with fail
        (with_reducible refine (withinR_any _ _ _ _).mono ?_)
        rintro e w3 ⟨rfl, hb⟩
        have HB3 := HB2.step hb
        clear k1 k7 k8
        clear hb
        have k1 := (StoAt.of HB3.cell).c1
        have k9 := (StoAt.of HB3.cell).c9
        have k10 := (StoAt.of HB3.cell).c10
        cases r2 : s.half.of 0 3
        · have HF : Hid (faultS s = 1) := by show _ = _; exact fault_arg HNO.out (.inr (.inl (by simp [rangesB, r0, r1, r2])))
          go_wp2_with fail
          go_ret
          exact ⟨ret_int HF.out.symm, HB3.below⟩
        · skip
          go_wp2_with fail
          (with_reducible refine (withinR_any _ _ _ _).mono ?_)
          rintro e w4 ⟨rfl, hb⟩
          have HB4 := HB3.step hb
          clear k1 k9 k10
          clear hb
          have k11 := (StoAt.of HB4.cell).c11
          have k0 := (StoAt.of HB4.cell).c0
          have k1 := (StoAt.of HB4.cell).c1
          have k2 := (StoAt.of HB4.cell).c2
          have k3 := (StoAt.of HB4.cell).c3
          have k4 := (StoAt.of HB4.cell).c4
          have k5 := (StoAt.of HB4.cell).c5
          have k6 := (StoAt.of HB4.cell).c6
          have k7 := (StoAt.of HB4.cell).c7
          have k8 := (StoAt.of HB4.cell).c8
          have k9 := (StoAt.of HB4.cell).c9
          have k10 := (StoAt.of HB4.cell).c10
          cases r3 : s.peak.of 1 9
          · have HF : Hid (faultS s = 1) := by show _ = _; exact fault_arg HNO.out (.inr (.inl (by simp [rangesB, r0, r1, r2, r3])))
            go_wp2_with fail
            go_ret
            exact ⟨ret_int HF.out.symm, HB4.below⟩
          · skip
            have hr : rangesB s = true := by simp [rangesB, r0, r1, r2, r3]
            have HR := hid hr
            clear k11 k0 k1 k2 k3 k4 k5 k6 k7 k8 k9 k10 hr
            go_wp2_with fail
            go_loopw [3] (fun i wr => ∃ j : Nat, j ≤ n ∧ i = .int .i64 j ∧ (s.cards.drop j).all (cardB s) = s.cards.all (cardB s) ∧ Boxed1 w #[.int .i64 s.wide, .int .i64 s.high, .int .i64 s.fall, .int .i64 s.a.lo, .int .i64 s.a.hi, .int .i64 s.b.lo, .int .i64 s.b.hi, .int .i64 s.half.lo, .int .i64 s.half.hi, .int .i64 s.peak.lo, .int .i64 s.peak.hi, .slice p n c] 26 wr) (fun i _ => n - (intOf i).toNat)
            case atStart => exact ⟨0, by omega, rfl, rfl, HB4⟩
            case round =>
              clear HB1 HB2 HB3 HB4
              obtain ⟨j, hj, rfl, hr, HB⟩ := hrel
              have HR2 := hid hr
              clear hr
              have k0 := (StoAt.of HB.cell).c0
              have k1 := (StoAt.of HB.cell).c1
              have k2 := (StoAt.of HB.cell).c2
              have k3 := (StoAt.of HB.cell).c3
              have k4 := (StoAt.of HB.cell).c4
              have k5 := (StoAt.of HB.cell).c5
              have k6 := (StoAt.of HB.cell).c6
              have k7 := (StoAt.of HB.cell).c7
              have k8 := (StoAt.of HB.cell).c8
              have k9 := (StoAt.of HB.cell).c9
              have k10 := (StoAt.of HB.cell).c10
              have k11 := (StoAt.of HB.cell).c11
              by_cases hlt : j < n
              · clear k0 k1 k2 k3 k4 k5 k6 k7 k8 k9 k10
                obtain ⟨x, hx, b1, o1, rfl, _⟩ := (HCS.out.below HB.below).at hlt
                have HD := hid (drop_at' hx)
                have HX := hid hx
                clear hx
                cases hc : cardB s x
                · have HF : Hid (faultS s = 1) := by show _ = _; exact fault_arg HNO.out (.inr (.inr (by rw [← HR2.out, HD.out]; simp [hc])))
                  go_wp2_with fail
                  go_region_held3 (fun W => W.cell? ⟨w.heap.size, 0, none⟩ = some (.int .i64 s.wide) ∧ W.cell? ⟨w.heap.size, 1, none⟩ = some (.int .i64 s.high) ∧ W.cell? ⟨w.heap.size, 2, none⟩ = some (.int .i64 s.fall) ∧ W.cell? ⟨w.heap.size, 3, none⟩ = some (.int .i64 s.a.lo) ∧ W.cell? ⟨w.heap.size, 4, none⟩ = some (.int .i64 s.a.hi) ∧ W.cell? ⟨w.heap.size, 5, none⟩ = some (.int .i64 s.b.lo) ∧ W.cell? ⟨w.heap.size, 6, none⟩ = some (.int .i64 s.b.hi) ∧ W.cell? ⟨w.heap.size, 7, none⟩ = some (.int .i64 s.half.lo) ∧ W.cell? ⟨w.heap.size, 8, none⟩ = some (.int .i64 s.half.hi) ∧ W.cell? ⟨w.heap.size, 9, none⟩ = some (.int .i64 s.peak.lo) ∧ W.cell? ⟨w.heap.size, 10, none⟩ = some (.int .i64 s.peak.hi) ∧ W.cell? ⟨w.heap.size, 11, none⟩ = some (.slice (some ⟨b1, o1, none⟩) n c) ∧ W.cell? ⟨b1, o1 + j * 7, none⟩ = some (.int .i64 x.x.lo) ∧ W.cell? ⟨b1, o1 + j * 7 + 1, none⟩ = some (.int .i64 x.x.hi) ∧ W.cell? ⟨b1, o1 + j * 7 + 2, none⟩ = some (.int .i64 x.y.lo) ∧ W.cell? ⟨b1, o1 + j * 7 + 3, none⟩ = some (.int .i64 x.y.hi) ∧ W.cell? ⟨b1, o1 + j * 7 + 4, none⟩ = some (.bool x.hail) ∧ W.cell? ⟨b1, o1 + j * 7 + 5, none⟩ = some (.int .i64 x.size.lo) ∧ W.cell? ⟨b1, o1 + j * 7 + 6, none⟩ = some (.int .i64 x.size.hi) ∧ Boxed1 w #[.int .i64 s.wide, .int .i64 s.high, .int .i64 s.fall, .int .i64 s.a.lo, .int .i64 s.a.hi, .int .i64 s.b.lo, .int .i64 s.b.hi, .int .i64 s.half.lo, .int .i64 s.half.hi, .int .i64 s.peak.lo, .int .i64 s.peak.hi, .slice (some ⟨b1, o1, none⟩) n c] 26 W)
                    (first | exact card_of HCS.out HX.out (by assumption) | exact card_of HCS.out HX.out (Boxed1.drew (by assumption)))
                    ((go_at_call 104; go_split_ands; (with_reducible refine (isCard_any _ _ _ _ x _ (by omega) (by omega) (by omega) (by omega)).mono ?_); rintro e w5 ⟨rfl, hb⟩; have HB5 := Boxed1.step (by assumption) hb; clear hb))
                  all_goals
                    go_wp2_with fail
                    go_ret
                    exact ⟨ret_int HF.out.symm, HB5.below⟩
                · have HF : Hid ((s.cards.drop (j + 1)).all (cardB s) = s.cards.all (cardB s)) := by show _ = _; rw [← HR2.out, HD.out]; simp [hc]
                  go_wp2_with fail
                  go_region_held3 (fun W => W.cell? ⟨w.heap.size, 0, none⟩ = some (.int .i64 s.wide) ∧ W.cell? ⟨w.heap.size, 1, none⟩ = some (.int .i64 s.high) ∧ W.cell? ⟨w.heap.size, 2, none⟩ = some (.int .i64 s.fall) ∧ W.cell? ⟨w.heap.size, 3, none⟩ = some (.int .i64 s.a.lo) ∧ W.cell? ⟨w.heap.size, 4, none⟩ = some (.int .i64 s.a.hi) ∧ W.cell? ⟨w.heap.size, 5, none⟩ = some (.int .i64 s.b.lo) ∧ W.cell? ⟨w.heap.size, 6, none⟩ = some (.int .i64 s.b.hi) ∧ W.cell? ⟨w.heap.size, 7, none⟩ = some (.int .i64 s.half.lo) ∧ W.cell? ⟨w.heap.size, 8, none⟩ = some (.int .i64 s.half.hi) ∧ W.cell? ⟨w.heap.size, 9, none⟩ = some (.int .i64 s.peak.lo) ∧ W.cell? ⟨w.heap.size, 10, none⟩ = some (.int .i64 s.peak.hi) ∧ W.cell? ⟨w.heap.size, 11, none⟩ = some (.slice (some ⟨b1, o1, none⟩) n c) ∧ W.cell? ⟨b1, o1 + j * 7, none⟩ = some (.int .i64 x.x.lo) ∧ W.cell? ⟨b1, o1 + j * 7 + 1, none⟩ = some (.int .i64 x.x.hi) ∧ W.cell? ⟨b1, o1 + j * 7 + 2, none⟩ = some (.int .i64 x.y.lo) ∧ W.cell? ⟨b1, o1 + j * 7 + 3, none⟩ = some (.int .i64 x.y.hi) ∧ W.cell? ⟨b1, o1 + j * 7 + 4, none⟩ = some (.bool x.hail) ∧ W.cell? ⟨b1, o1 + j * 7 + 5, none⟩ = some (.int .i64 x.size.lo) ∧ W.cell? ⟨b1, o1 + j * 7 + 6, none⟩ = some (.int .i64 x.size.hi) ∧ Boxed1 w #[.int .i64 s.wide, .int .i64 s.high, .int .i64 s.fall, .int .i64 s.a.lo, .int .i64 s.a.hi, .int .i64 s.b.lo, .int .i64 s.b.hi, .int .i64 s.half.lo, .int .i64 s.half.hi, .int .i64 s.peak.lo, .int .i64 s.peak.hi, .slice (some ⟨b1, o1, none⟩) n c] 26 W)
                    (first | exact card_of HCS.out HX.out (by assumption) | exact card_of HCS.out HX.out (Boxed1.drew (by assumption)))
                    ((go_at_call 104; go_split_ands; (with_reducible refine (isCard_any _ _ _ _ x _ (by omega) (by omega) (by omega) (by omega)).mono ?_); rintro e w5 ⟨rfl, hb⟩; have HB5 := Boxed1.step (by assumption) hb; clear hb))
                  all_goals
                    go_wp2_with fail
                    go_roundw
                    case rel => exact ⟨j + 1, by omega, by go_num, HF.out, HB5⟩
                    case measure => simp [intOf]; omega
              · have r4 : s.cards.all (cardB s) = true := by rw [← HR2.out, List.drop_of_length_le (by have := HL.out; omega)]; rfl
                have HF : Hid (faultS s = if 2000 < manyS s then 3 else 0) := by show _ = _; exact fault_many HNO.out HS.out HR.out r4
                clear r4
                go_wp2_with fail
                (with_reducible refine (many_any _ _ _ _ _ HR.out (by omega)).mono ?_)
                rintro e w6 ⟨rfl, hb⟩
                have HB6 := HB.step hb
                clear hb
                by_cases h7 : 2000 < manyS s
                · have HF2 : Hid (faultS s = 3) := by show _ = _; rw [HF.out, if_pos h7]
                  go_wp2_with fail
                  go_ret
                  exact ⟨ret_int HF2.out.symm, HB6.below⟩
                · have HF2 : Hid (faultS s = 0) := by show _ = _; rw [HF.out, if_neg h7]
                  go_wp2_with fail
                  go_ret
                  exact ⟨ret_int HF2.out.symm, HB6.below⟩
end Go.Proofs.Ytfnefkenheglhaa
