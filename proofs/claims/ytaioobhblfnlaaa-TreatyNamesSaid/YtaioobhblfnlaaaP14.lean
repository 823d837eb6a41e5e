/- Package treaty: whether a list leaves out all wrong reports of some truth. No condition but short lists. -/
import Derived.Test.YtaioobhblfnlaaaP13
namespace Go.Proofs.Ytaioobhblfnlaaa
open Go.RowKit

/-- Which reports are right: cells. -/
def cellsX (x : Nat → Bool) : List Value := [.bool (x 0), .bool (x 1), .bool (x 2), .bool (x 3), .bool (x 4)]
theorem cellsX_len (x : Nat → Bool) : (cellsX x).length = 5 := rfl
theorem cellsX_one (x : Nat → Bool) : ∀ u ∈ cellsX x, u.oneCell' = true := by
  intro u hu
  simp only [cellsX, List.mem_cons, List.not_mem_nil, or_false] at hu
  rcases hu with rfl | rfl | rfl | rfl | rfl <;> rfl
theorem cellsX_get {x : Nat → Bool} {i : Nat} (hi : i < 5) : (cellsX x)[i]? = some (.bool (x i)) := by
  match i, hi with
  | 0, _ => rfl
  | 1, _ => rfl
  | 2, _ => rfl
  | 3, _ => rfl
  | 4, _ => rfl
theorem arrX_get {x : Nat → Bool} {i : Nat} (hi : i < 5) : (#[.bool (x 0), .bool (x 1), .bool (x 2), .bool (x 3), .bool (x 4)] : Array Value)[i]? = some (.bool (x i)) := by
  match i, hi with
  | 0, _ => rfl
  | 1, _ => rfl
  | 2, _ => rfl
  | 3, _ => rfl
  | 4, _ => rfl
def inX (x : Nat → Bool) (X : List Int) (i : Int) : Bool := x i.toNat || hasB X i
def IdL (n : Nat) (l : List Int) : Prop := ∀ a ∈ l, 0 ≤ a ∧ a < (n : Int)
/-- What is asked of a number: the cells of the rights, of the list. -/
structure AskAt (W : World) (bx bo : Nat) (x : Nat → Bool) (q : Option Addr) (k d : Nat) (X : List Int) : Prop where
  x : ∀ i, i < 5 → W.cell? ⟨bx, i, none⟩ = some (.bool (x i))
  o : W.cell? ⟨bo, 0, none⟩ = some (.slice q k d)
  l : IntsAt W q k X
theorem AskAt.below {W W' : World} {bx bo : Nat} {x : Nat → Bool} {q : Option Addr} {k d : Nat} {X : List Int} (h : AskAt W bx bo x q k d X) (hb : Below W.heap.size W W') : AskAt W' bx bo x q k d X :=
  ⟨fun i hi => (hb.cell (p := ⟨bx, i, none⟩) (World.block_lt_of_cell? _ _ (h.x i hi))).trans (h.x i hi), (hb.cell (p := ⟨bo, 0, none⟩) (World.block_lt_of_cell? _ _ h.o)).trans h.o, h.l.below hb⟩

set_option maxRecDepth 40000 in
set_option maxHeartbeats 4000000 in
theorem in99_any (bx bo : Nat) (x : Nat → Bool) (q : Option Addr) (k d : Nat) (X : List Int) (a : Int) (w : World) (ha : AskAt w bx bo x q k d X) (hk : k ≤ 100000) (h0 : 0 ≤ a) (h5 : a < 5) :
    Calls Try.prog 99 #[.int .i64 a, .pointer (some ⟨bx, 0, none⟩), .pointer (some ⟨bo, 0, none⟩)] w fun e w' => e = .returned (.bool (inX x X a)) ∧ Below w.heap.size w w' := by
  have HA := hid ha
  obtain ⟨j, rfl⟩ : ∃ j : Nat, a = j := ⟨a.toNat, by omega⟩
  have hj5 : (j : Int) < 5 := by omega
  have c0 := ha.x j (by omega)
  have c1 := ha.o
  have HIN : Hid (inX x X (j : Int) = (x j || hasB X (j : Int))) := hid (by rw [inX, Int.toNat_natCast])
  clear ha
  cases hx : x j
  · rw [hx] at c0 HIN
    clear hx
    go_enter Try.func99, Try.ntmps99
    go_wp2_with fail
    (with_reducible refine (contains_any q k d X (j : Int) w HA.out.l hk).mono ?_)
    rintro e w1 ⟨rfl, hb⟩
    have HB := hid hb
    clear hb c0 c1
    go_wp2_with fail
    go_ret
    exact ⟨ret_bool (by rw [HIN.out]; simp), HB.out⟩
  · rw [hx] at c0 HIN
    clear hx
    go_enter Try.func99, Try.ntmps99
    go_wp2_with fail
    go_ret
    exact ⟨ret_bool (by rw [HIN.out]; simp), Below.refl _ _⟩

set_option maxRecDepth 20000 in
set_option maxHeartbeats 2000000 in
theorem not123l_any (bx bo : Nat) (x : Nat → Bool) (q : Option Addr) (k d : Nat) (X : List Int) (B : Nat) (a : Int) (w : World) (hB : w.cell? ⟨B, 0, none⟩ = some (.func (.func 99) #[] #[.pointer (some ⟨bx, 0, none⟩), .pointer (some ⟨bo, 0, none⟩)])) (ha : AskAt w bx bo x q k d X) (hk : k ≤ 100000) (h0 : 0 ≤ a) (h5 : a < 5) :
    Calls Try.prog 123 #[.int .i64 a, .pointer (some ⟨B, 0, none⟩)] w fun e w' => e = .returned (.bool (!inX x X a)) ∧ Below w.heap.size w w' := by
  have HC := hid (in99_any bx bo x q k d X a w ha hk h0 h5)
  clear ha
  go_enter Try.func123, Try.ntmps123
  go_wp2_with fail
  refine HC.out.mono ?_
  rintro e w1 ⟨rfl, hb⟩
  go_wp2_with fail
  go_ret
  exact ⟨rfl, hb⟩

set_option maxRecDepth 40000 in
set_option maxHeartbeats 4000000 in
theorem index132l_any (bx bo : Nat) (x : Nat → Bool) (q : Option Addr) (k d : Nat) (X : List Int) (B : Nat) (p : Option Addr) (m c : Nat) (l : List Int) (w : World) (hB : w.cell? ⟨B, 0, none⟩ = some (.func (.func 99) #[] #[.pointer (some ⟨bx, 0, none⟩), .pointer (some ⟨bo, 0, none⟩)])) (ha : AskAt w bx bo x q k d X) (hk : k ≤ 100000) (hl : IntsAt w p m l) (hm : m ≤ 1000000) (hid5 : IdL 5 l) :
    Calls Try.prog 132 #[.slice p m c, .func (.func 123) #[] #[.pointer (some ⟨B, 0, none⟩)]] w fun e w' => e = .returned (.int .i64 (findG (fun a => !inX x X a) 0 l)) ∧ Below w.heap.size w w' := by
  have HN := hid (fun a W (hW : Below w.heap.size w W) (h0 : 0 ≤ a) (h5 : a < 5) => not123l_any bx bo x q k d X B a W ((hW.cell (p := ⟨B, 0, none⟩) (World.block_lt_of_cell? _ _ hB)).trans hB) (ha.below hW) hk h0 h5)
  have HL := hid hl
  have HMN := hid hl.1
  have HID := hid hid5
  clear hB ha hl hid5
  go_enter Try.func132, Try.ntmps132
  go_wp2_with fail
  go_loopw [5, 8] (fun _ i wr => ∃ j : Nat, j ≤ m ∧ i = .int .i64 j ∧ findG (fun a => !inX x X a) j (l.drop j) = findG (fun a => !inX x X a) 0 l ∧ Below w.heap.size w wr) (fun _ i _ => m - (intOf i).toNat)
  case atStart => exact ⟨0, by omega, rfl, rfl, Below.refl _ _⟩
  case round =>
    obtain ⟨j, hj, rfl, hr, hb⟩ := hrel
    have HR := hid hr; have HB := hid hb
    clear hr hb
    by_cases hlt : j < m
    · obtain ⟨b2, o2, rfl, hb2, c0⟩ := (HL.out.below HB.out).at hlt
      have HD := hid (drop_at l j (by have := HMN.out; omega))
      obtain ⟨y, hy⟩ : ∃ y, l[j]?.getD 0 = y := ⟨_, rfl⟩
      have hyb := HID.out _ (getD_mem (show j < l.length by have := HMN.out; omega))
      rw [hy] at c0 HD hyb
      have hyb2 : y < 5 := by have := hyb.2; omega
      clear hy hb2
      go_wp2_with fail
      (with_reducible refine (HN.out y _ HB.out hyb.1 hyb2).mono ?_)
      rintro e w1 ⟨rfl, hb1⟩
      have HB1 := hid (HB.out.trans (hb1.mono HB.out.size))
      clear hb1 c0
      cases hp : (!inX x X y)
      · have HF : Hid (findG (fun a => !inX x X a) ((j + 1 : Nat) : Int) (l.drop (j + 1)) = findG (fun a => !inX x X a) 0 l) := hid (by rw [← HR.out, HD.out, findG]; simp only [hp]; rfl)
        clear hp
        go_wp2_with fail
        go_roundw
        case rel => exact ⟨j + 1, by omega, by go_num, HF.out, HB1.out⟩
        case measure => simp [intOf]; omega
      · have HF : Hid ((j : Int) = findG (fun a => !inX x X a) 0 l) := hid (by rw [← HR.out, HD.out, findG]; simp only [hp]; rfl)
        clear hp
        go_wp2_with fail
        go_ret
        exact ⟨ret_int HF.out, HB1.out⟩
    · have HF : Hid (-1 = findG (fun a => !inX x X a) 0 l) := hid (by rw [← HR.out, List.drop_of_length_le (by have := HMN.out; omega)]; rfl)
      go_wp2_with fail
      go_ret
      exact ⟨ret_int HF.out, HB.out⟩

set_option maxRecDepth 20000 in
set_option maxHeartbeats 2000000 in
theorem contains122l_any (bx bo : Nat) (x : Nat → Bool) (q : Option Addr) (k d : Nat) (X : List Int) (B : Nat) (p : Option Addr) (m c : Nat) (l : List Int) (w : World) (hB : w.cell? ⟨B, 0, none⟩ = some (.func (.func 99) #[] #[.pointer (some ⟨bx, 0, none⟩), .pointer (some ⟨bo, 0, none⟩)])) (ha : AskAt w bx bo x q k d X) (hk : k ≤ 100000) (hl : IntsAt w p m l) (hm : m ≤ 1000000) (hid5 : IdL 5 l) :
    Calls Try.prog 122 #[.slice p m c, .func (.func 123) #[] #[.pointer (some ⟨B, 0, none⟩)]] w fun e w' => e = .returned (.bool (!(l.all (inX x X)))) ∧ Below w.heap.size w w' := by
  have HC := hid (index132l_any bx bo x q k d X B p m c l w hB ha hk hl hm hid5)
  have HF := hid (findG_all (inX x X) 0 l (by omega))
  clear hB ha hl hid5
  go_enter Try.func122, Try.ntmps122
  go_wp2_with fail
  refine HC.out.mono ?_
  rintro e w1 ⟨rfl, hb⟩
  generalize findG (fun a => !inX x X a) 0 l = z at *
  go_wp2_with fail
  go_ret
  exact ⟨ret_bool HF.out, hb⟩

set_option maxRecDepth 20000 in
set_option maxHeartbeats 2000000 in
theorem all98l_any (bx bo : Nat) (x : Nat → Bool) (q : Option Addr) (k d : Nat) (X : List Int) (p : Option Addr) (m c : Nat) (l : List Int) (w : World) (ha : AskAt w bx bo x q k d X) (hk : k ≤ 100000) (hl : IntsAt w p m l) (hm : m ≤ 1000000) (hid5 : IdL 5 l) :
    Calls Try.prog 98 #[.slice p m c, .func (.func 99) #[] #[.pointer (some ⟨bx, 0, none⟩), .pointer (some ⟨bo, 0, none⟩)]] w fun e w' => e = .returned (.bool (l.all (inX x X))) ∧ Below w.heap.size w w' := by
  have hb : Below w.heap.size w (w.alloc (.cells #[.func (.func 99) #[] #[.pointer (some ⟨bx, 0, none⟩), .pointer (some ⟨bo, 0, none⟩)]] 114)) := (Below.refl _ _).alloc (Nat.le_refl _) _
  have HC := hid (contains122l_any bx bo x q k d X w.heap.size p m c l (w.alloc (.cells #[.func (.func 99) #[] #[.pointer (some ⟨bx, 0, none⟩), .pointer (some ⟨bo, 0, none⟩)]] 114)) (cell_box _ _ _ 0 _ rfl) (ha.below hb) hk (hl.below hb) hm hid5)
  clear ha hl hid5 hb
  have hmf : ∀ (fn : Fn) (first cap : Array Value) (w : World), (Instr.makeFunc fn first cap).run Try.prog w = .ok (.func fn first cap) w := fun _ _ _ _ => rfl
  go_enter Try.func98, Try.ntmps98
  go_wp2_with fail
  refine HC.out.mono ?_
  rintro e w1 ⟨rfl, hb⟩
  have HB := hid hb
  clear hb
  go_wp2_with fail
  go_ret
  exact ⟨ret_bool (by simp), ((Below.refl _ _).alloc (Nat.le_refl _) _).trans (HB.out.mono (by simp))⟩

set_option maxRecDepth 20000 in
set_option maxHeartbeats 2000000 in
theorem fits97_any (be bo : Nat) (x : Nat → Bool) (q : Option Addr) (k d : Nat) (X : List Int) (p : Option Addr) (m c : Nat) (l : List Int) (w : World) (he : w.cell? ⟨be, 0, none⟩ = some (.slice p m c)) (ho : w.cell? ⟨bo, 0, none⟩ = some (.slice q k d)) (hX : IntsAt w q k X) (hk : k ≤ 100000) (hl : IntsAt w p m l) (hm : m ≤ 1000000) (hid5 : IdL 5 l) :
    Calls Try.prog 97 #[.agg #[.bool (x 0), .bool (x 1), .bool (x 2), .bool (x 3), .bool (x 4)], .pointer (some ⟨be, 0, none⟩), .pointer (some ⟨bo, 0, none⟩)] w fun e w' => e = .returned (.bool (l.all (inX x X))) ∧ Below w.heap.size w w' := by
  have hb : Below w.heap.size w (w.alloc (.cells #[.bool (x 0), .bool (x 1), .bool (x 2), .bool (x 3), .bool (x 4)] 151)) := (Below.refl _ _).alloc (Nat.le_refl _) _
  have hbx := BoxIs.start w #[.bool (x 0), .bool (x 1), .bool (x 2), .bool (x 3), .bool (x 4)] 151
  have HC := hid (all98l_any w.heap.size bo x q k d X p m c l (w.alloc (.cells #[.bool (x 0), .bool (x 1), .bool (x 2), .bool (x 3), .bool (x 4)] 151)) ⟨fun i hi => (hbx.2 i _ (arrX_get hi)).1, (hb.cell (p := ⟨bo, 0, none⟩) (World.block_lt_of_cell? _ _ ho)).trans ho, hX.below hb⟩ hk (hl.below hb) hm hid5)
  have c0 := (hb.cell (p := ⟨be, 0, none⟩) (World.block_lt_of_cell? _ _ he)).trans he
  clear he ho hX hl hid5 hb hbx
  have hmf : ∀ (fn : Fn) (first cap : Array Value) (w : World), (Instr.makeFunc fn first cap).run Try.prog w = .ok (.func fn first cap) w := fun _ _ _ _ => rfl
  go_enter Try.func97, Try.ntmps97
  go_wp2_with fail
  refine HC.out.mono ?_
  rintro e w1 ⟨rfl, hb⟩
  have HB := hid hb
  clear hb c0
  go_wp2_with fail
  go_ret
  exact ⟨rfl, ((Below.refl _ _).alloc (Nat.le_refl _) _).trans (HB.out.mono (by simp))⟩
theorem RowsAt.x5 {w : World} {p : Option Addr} {n : Nat} {l : List (Nat → Bool)} (h : RowsAt cellsX 5 w p n l) {i : Nat} (hi : i < n) : ∃ x, l[i]? = some x ∧ ∃ b off, p = some ⟨b, off, none⟩ ∧ b < w.heap.size ∧
    w.cell? ⟨b, off + i * 5, none⟩ = some (.bool (x 0)) ∧ w.cell? ⟨b, off + i * 5 + 1, none⟩ = some (.bool (x 1)) ∧ w.cell? ⟨b, off + i * 5 + 2, none⟩ = some (.bool (x 2)) ∧ w.cell? ⟨b, off + i * 5 + 3, none⟩ = some (.bool (x 3)) ∧ w.cell? ⟨b, off + i * 5 + 4, none⟩ = some (.bool (x 4)) := by
  obtain ⟨r, hr, b, off, hp, hlt, hc⟩ := h.at hi
  exact ⟨r, hr, b, off, hp, hlt, hc 0 _ rfl, hc 1 _ rfl, hc 2 _ rfl, hc 3 _ rfl, hc 4 _ rfl⟩
theorem findG_any {α : Type} (f : α → Bool) : ∀ (i : Int) (l : List α), 0 ≤ i → decide (0 ≤ findG f i l) = l.any f
  | i, [], _ => by simp [findG]
  | i, a :: r, h => by
    unfold findG
    cases hf : f a
    · have := findG_any f (i + 1) r (by omega)
      simp [hf]
      simpa using this
    · simp [hf, h]
theorem drop_at9 {α : Type} {l : List α} {k : Nat} {a : α} (h : l[k]? = some a) : l.drop k = a :: l.drop (k + 1) := by
  obtain ⟨hk, e⟩ := List.getElem?_eq_some_iff.1 h
  rw [List.drop_eq_getElem_cons hk, e]
/-- What the search asks: the known rights, all reports, a list. -/
structure KnwAt (W : World) (be bo : Nat) (p : Option Addr) (m c : Nat) (l : List Int) (q : Option Addr) (k d : Nat) (X : List Int) : Prop where
  e : W.cell? ⟨be, 0, none⟩ = some (.slice p m c)
  l : IntsAt W p m l
  o : W.cell? ⟨bo, 0, none⟩ = some (.slice q k d)
  x : IntsAt W q k X
theorem KnwAt.below {W W' : World} {be bo : Nat} {p : Option Addr} {m c : Nat} {l : List Int} {q : Option Addr} {k d : Nat} {X : List Int} (h : KnwAt W be bo p m c l q k d X) (hb : Below W.heap.size W W') : KnwAt W' be bo p m c l q k d X :=
  ⟨(hb.cell (p := ⟨be, 0, none⟩) (World.block_lt_of_cell? _ _ h.e)).trans h.e, h.l.below hb, (hb.cell (p := ⟨bo, 0, none⟩) (World.block_lt_of_cell? _ _ h.o)).trans h.o, h.x.below hb⟩
def okX (l X : List Int) (x : Nat → Bool) : Bool := l.all (inX x X)

set_option maxRecDepth 40000 in
set_option maxHeartbeats 4000000 in
theorem index121_any (be bo : Nat) (p : Option Addr) (m c : Nat) (l : List Int) (q : Option Addr) (k d : Nat) (X : List Int) (kp : Option Addr) (kn kc : Nat) (K : List (Nat → Bool)) (w : World) (ha : KnwAt w be bo p m c l q k d X) (hk : k ≤ 100000) (hm : m ≤ 1000000) (hid5 : IdL 5 l) (hK : RowsAt cellsX 5 w kp kn K) (hkn : kn ≤ 1000000) :
    Calls Try.prog 121 #[.slice kp kn kc, .func (.func 97) #[] #[.pointer (some ⟨be, 0, none⟩), .pointer (some ⟨bo, 0, none⟩)]] w fun e w' => e = .returned (.int .i64 (findG (okX l X) 0 K)) ∧ Below w.heap.size w w' := by
  have HN := hid (fun x W (hW : Below w.heap.size w W) => fits97_any be bo x q k d X p m c l W (ha.below hW).e (ha.below hW).o (ha.below hW).x hk (ha.below hW).l hm hid5)
  have HL := hid hK
  have HMN := hid hK.1
  clear ha hK hid5
  go_enter Try.func121, Try.ntmps121
  go_wp2_with fail
  go_loopw [5, 8] (fun _ i wr => ∃ j : Nat, j ≤ kn ∧ i = .int .i64 j ∧ findG (okX l X) j (K.drop j) = findG (okX l X) 0 K ∧ Below w.heap.size w wr) (fun _ i _ => kn - (intOf i).toNat)
  case atStart => exact ⟨0, by omega, rfl, rfl, Below.refl _ _⟩
  case round =>
    obtain ⟨j, hj, rfl, hr, hb⟩ := hrel
    have HR := hid hr; have HB := hid hb
    clear hr hb
    by_cases hlt : j < kn
    · obtain ⟨x, hx, b2, o2, rfl, hb2, c0, c1, c2, c3, c4⟩ := (HL.out.below HB.out).x5 hlt
      have HD := hid (drop_at9 hx)
      clear hx hb2
      go_wp2_with fail
      (with_reducible refine (HN.out x _ HB.out).mono ?_)
      rintro e w1 ⟨rfl, hb1⟩
      have HB1 := hid (HB.out.trans (hb1.mono HB.out.size))
      have HOX := hid (show l.all (inX x X) = okX l X x from rfl)
      rw [HOX.out]
      clear hb1 c0 c1 c2 c3 c4
      cases hp : okX l X x
      · have HF : Hid (findG (okX l X) ((j + 1 : Nat) : Int) (K.drop (j + 1)) = findG (okX l X) 0 K) := hid (by rw [← HR.out, HD.out, findG]; simp only [hp]; rfl)
        clear hp
        go_wp2_with fail
        go_roundw
        case rel => exact ⟨j + 1, by omega, by go_num, HF.out, HB1.out⟩
        case measure => simp [intOf]; omega
      · have HF : Hid ((j : Int) = findG (okX l X) 0 K) := hid (by rw [← HR.out, HD.out, findG]; simp only [hp]; rfl)
        clear hp
        go_wp2_with fail
        go_ret
        exact ⟨ret_int HF.out, HB1.out⟩
    · have HF : Hid (-1 = findG (okX l X) 0 K) := hid (by rw [← HR.out, List.drop_of_length_le (by have := HMN.out; omega)]; rfl)
      go_wp2_with fail
      go_ret
      exact ⟨ret_int HF.out, HB.out⟩

set_option maxRecDepth 20000 in
set_option maxHeartbeats 2000000 in
theorem contains96_any (be bo : Nat) (p : Option Addr) (m c : Nat) (l : List Int) (q : Option Addr) (k d : Nat) (X : List Int) (kp : Option Addr) (kn kc : Nat) (K : List (Nat → Bool)) (w : World) (ha : KnwAt w be bo p m c l q k d X) (hk : k ≤ 100000) (hm : m ≤ 1000000) (hid5 : IdL 5 l) (hK : RowsAt cellsX 5 w kp kn K) (hkn : kn ≤ 1000000) :
    Calls Try.prog 96 #[.slice kp kn kc, .func (.func 97) #[] #[.pointer (some ⟨be, 0, none⟩), .pointer (some ⟨bo, 0, none⟩)]] w fun e w' => e = .returned (.bool (K.any (okX l X))) ∧ Below w.heap.size w w' := by
  have HC := hid (index121_any be bo p m c l q k d X kp kn kc K w ha hk hm hid5 hK hkn)
  have HF := hid (findG_any (okX l X) 0 K (by omega))
  clear ha hK hid5
  go_enter Try.func96, Try.ntmps96
  go_wp2_with fail
  refine HC.out.mono ?_
  rintro e w1 ⟨rfl, hb⟩
  generalize findG (okX l X) 0 K = z at *
  go_wp2_with fail
  go_ret
  exact ⟨ret_bool HF.out, hb⟩
end Go.Proofs.Ytaioobhblfnlaaa
