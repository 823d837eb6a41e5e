/- The program: fields, lots, maps, CheckSurvey, Draw and smooth -/
import Derived.Test.YtlicijnaacdceaaRefN
import Derived.Maps.OwnOps
import Derived.Maps.OwnSet
import Derived.DeepKeys4
import Derived.Deep.RegionHeld3
/- Walks over package frame, part A: stems, place, count, all over counts. -/
namespace Go.Proofs.Ytlicijnaacdceaa
open Go.RowKit

set_option maxHeartbeats 400000 in
theorem stems_any (n : Int) (w : World) : Calls Try.prog 87 #[.int .i64 n] w fun e w' => e = .returned (.bool (inB n 0 9)) ∧ w' = w := by
  go_enter Try.func87, Try.ntmps87
  go_wp2_with (go_at_call 90; refine (within_any _ _ _ _).mono ?_; rintro e w' ⟨rfl, rfl⟩)
  go_ret
  exact ⟨rfl, rfl⟩

set_option maxHeartbeats 400000 in
theorem rhas_any (lo hi n : Int) (w : World) : Calls Try.prog 107 #[.agg #[.int .i64 lo, .int .i64 hi], .int .i64 n] w fun e w' => e = .returned (.bool (inB n lo hi)) ∧ Below w.heap.size w w' := by
  go_enter Try.func107, Try.ntmps107
  go_wp2_with (go_at_call 90; refine (within_any _ _ _ _).mono ?_; rintro e w' ⟨rfl, rfl⟩)
  go_ret
  exact ⟨rfl, (Below.refl _ _).alloc (Nat.le_refl _) _⟩

set_option maxHeartbeats 400000 in
theorem places_any (r cc : Int) (p : Option Addr) (n c : Nat) (w : World) : Calls Try.prog 77 #[.agg #[.int .i64 r, .int .i64 cc, .slice p n c]] w fun e w' => e = .returned (.int .i64 n) ∧ Below w.heap.size w w' := by
  go_enter Try.func77, Try.ntmps77
  go_wp2
  go_ret
  exact ⟨rfl, (Below.refl _ _).alloc (Nat.le_refl _) _⟩

set_option maxHeartbeats 400000 in
theorem place_any (r cc : Int) (p : Option Addr) (n c : Nat) (x : Int) (w : World) (hn : n ≤ 1000000) : Calls Try.prog 83 #[.agg #[.int .i64 r, .int .i64 cc, .slice p n c], .int .i64 x] w fun e w' => e = .returned (.bool (inB x 0 ((n : Int) - 1))) ∧ Below w.heap.size w w' := by
  go_enter Try.func83, Try.ntmps83
  go_wp2_with fail
  refine (places_any _ _ _ _ _ _).mono ?_
  rintro e w1 ⟨rfl, hb⟩
  have HB : Boxed1 w #[.int .i64 r, .int .i64 cc, .slice p n c] 33 w1 := hb.mono (by simp)
  go_wp2_with (go_at_call 90; refine (within_any _ _ _ _).mono ?_; rintro e w' ⟨rfl, rfl⟩)
  go_ret
  exact ⟨rfl, HB.below⟩

def cntP (n : Nat) (c : Cnt) : Bool := inB c.place 0 ((n : Int) - 1) && (inB c.lo 0 9 && (inB c.hi 0 9 && decide (c.lo ≤ c.hi)))

set_option maxHeartbeats 1000000 in
theorem count_any (r cc : Int) (p : Option Addr) (n c : Nat) (sm : Int) (q : Option Addr) (m d : Nat) (x : Cnt) (w : World) (hn : n ≤ 1000000) :
    Calls Try.prog 86 #[.agg #[.int .i64 r, .int .i64 cc, .slice p n c, .int .i64 sm, .slice q m d], .agg #[.int .i64 x.place, .int .i64 x.lo, .int .i64 x.hi, .bool x.late]] w fun e w' => e = .returned (.bool (cntP n x)) ∧ Below w.heap.size w w' := by
  have HF := hid (show cntP n x = (inB x.place 0 ((n : Int) - 1) && (inB x.lo 0 9 && (inB x.hi 0 9 && decide (x.lo ≤ x.hi)))) from rfl)
  go_enter Try.func86, Try.ntmps86
  go_wp2_with fail
  refine (place_any _ _ _ _ _ _ _ hn).mono ?_
  rintro e w1 ⟨rfl, hb⟩
  have HB : Boxed2 w #[.int .i64 r, .int .i64 cc, .slice p n c, .int .i64 sm, .slice q m d] 36 #[.int .i64 x.place, .int .i64 x.lo, .int .i64 x.hi, .bool x.late] 101 w1 := hb.mono (by simp)
  have hs1 := HB.cell2 1 (v := .int .i64 x.lo) rfl
  have hs2 := HB.cell2 2 (v := .int .i64 x.hi) rfl
  clear hb
  cases h1 : inB x.place 0 ((n : Int) - 1)
  · go_wp2_with fail
    go_ret
    exact ⟨ret_bool (by rw [HF.out, h1]; rfl), HB.below⟩
  · cases h2 : inB x.lo 0 9
    · go_wp2_with (go_at_call 87; refine (stems_any _ _).mono ?_; rintro e w' ⟨rfl, rfl⟩)
      go_ret
      exact ⟨ret_bool (by rw [HF.out, h1, h2]; rfl), HB.below⟩
    · cases h3 : inB x.hi 0 9
      · go_wp2_with (go_at_call 87; refine (stems_any _ _).mono ?_; rintro e w' ⟨rfl, rfl⟩)
        go_ret
        exact ⟨ret_bool (by rw [HF.out, h1, h2, h3]; rfl), HB.below⟩
      · go_wp2_with (go_at_call 87; refine (stems_any _ _).mono ?_; rintro e w' ⟨rfl, rfl⟩)
        go_ret
        exact ⟨ret_bool (by rw [HF.out, h1, h2, h3]; rfl), HB.below⟩

/-- The value of the method count of a survey. -/
def countF (r cc : Int) (p : Option Addr) (n c : Nat) (sm : Int) (q : Option Addr) (m d : Nat) : Value := .func (.func 86) #[.agg #[.int .i64 r, .int .i64 cc, .slice p n c, .int .i64 sm, .slice q m d]] #[]

set_option maxHeartbeats 1000000 in
theorem notcount_any (r cc : Int) (p : Option Addr) (n c : Nat) (sm : Int) (q : Option Addr) (m d : Nat) (x : Cnt) (B : Nat) (w : World) (hn : n ≤ 1000000) (hB : w.cell? ⟨B, 0, none⟩ = some (.func (.func 86) #[.agg #[.int .i64 r, .int .i64 cc, .slice p n c, .int .i64 sm, .slice q m d]] #[])) :
    Calls Try.prog 102 #[.agg #[.int .i64 x.place, .int .i64 x.lo, .int .i64 x.hi, .bool x.late], .pointer (some ⟨B, 0, none⟩)] w fun e w' => e = .returned (.bool (!cntP n x)) ∧ Below w.heap.size w w' := by
  have hlt := World.block_lt_of_cell? w _ hB
  go_enter Try.func102, Try.ntmps102
  go_wp2_with fail
  refine (count_any _ _ _ _ _ _ _ _ _ x _ hn).mono ?_
  rintro e w1 ⟨rfl, hb⟩
  have HB : Boxed1 w #[.int .i64 x.place, .int .i64 x.lo, .int .i64 x.hi, .bool x.late] 101 w1 := hb.mono (by simp)
  go_wp2
  go_ret
  exact ⟨rfl, HB.below⟩

/-- IndexFunc: the first place, from one on, at which f is; -1 if there is none. -/
def findG {α : Type} (f : α → Bool) : Int → List α → Int
  | _, [] => -1
  | i, a :: r => if f a = true then i else findG f (i + 1) r

set_option maxHeartbeats 1000000 in
theorem indexCnt_any (r cc : Int) (p : Option Addr) (n c : Nat) (sm : Int) (q : Option Addr) (m d : Nat) (cs : List Cnt) (B : Nat) (w : World) (hn : n ≤ 1000000) (hm : m ≤ 1000000) (hcs : CntsAt w q m cs) (hB : w.cell? ⟨B, 0, none⟩ = some (.func (.func 86) #[.agg #[.int .i64 r, .int .i64 cc, .slice p n c, .int .i64 sm, .slice q m d]] #[])) :
    Calls Try.prog 109 #[.slice q m d, .func (.func 102) #[] #[.pointer (some ⟨B, 0, none⟩)]] w fun e w' => e = .returned (.int .i64 (findG (fun x => !cntP n x) 0 cs)) ∧ Below w.heap.size w w' := by
  have hlt := World.block_lt_of_cell? w _ hB
  have HN := hid (fun (x : Cnt) W (hW : Below w.heap.size w W) => notcount_any r cc p n c sm q m d x B W hn ((hW.cell (p := ⟨B, 0, none⟩) hlt).trans hB))
  have HCS := hid hcs
  clear hcs hB
  go_enter Try.func109, Try.ntmps109
  go_wp2
  go_loopw [5, 8] (fun _ i wr => ∃ k : Nat, k ≤ m ∧ i = .int .i64 k ∧ findG (fun x => !cntP n x) k (cs.drop k) = findG (fun x => !cntP n x) 0 cs ∧ Below w.heap.size w wr) (fun _ i _ => m - (intOf i).toNat)
  case atStart => exact ⟨0, by omega, rfl, rfl, Below.refl _ _⟩
  case round =>
    obtain ⟨k, hk, rfl, hr, hb⟩ := hrel
    have HR := hid hr
    clear hr
    by_cases hlt : k < m
    · obtain ⟨x, hx, b1, o1, rfl, hb1, hc0, hc1, hc2, hc3⟩ := (HCS.out.below hb).at hlt
      have HD := hid (drop_cnt hx)
      clear hx
      cases hp : (!cntP n x)
      · have HF : Hid (findG (fun x => !cntP n x) ((k + 1 : Nat) : Int) (cs.drop (k + 1)) = findG (fun x => !cntP n x) 0 cs) := by show _ = _; rw [← HR.out, HD.out, findG]; simp only [hp]; rfl
        go_wp2_with (go_at_call 102; refine (HN.out x _ ?_).mono ?_; exact hb; rintro e w1 ⟨rfl, hb2⟩)
        go_roundw
        case rel => exact ⟨k + 1, by omega, by go_num, HF.out, hb.trans (hb2.mono hb.size)⟩
        case measure => simp [intOf]; omega
      · have HF : Hid ((k : Int) = findG (fun x => !cntP n x) 0 cs) := by show _ = _; rw [← HR.out, HD.out, findG]; simp only [hp]; rfl
        go_wp2_with (go_at_call 102; refine (HN.out x _ ?_).mono ?_; exact hb; rintro e w1 ⟨rfl, hb2⟩)
        go_ret
        exact ⟨ret_int HF.out, hb.trans (hb2.mono hb.size)⟩
    · have HF : Hid (-1 = findG (fun x => !cntP n x) 0 cs) := by show _ = _; rw [← HR.out, List.drop_of_length_le (by have := HCS.out.1; omega)]; rfl
      go_wp2
      go_ret
      exact ⟨ret_int HF.out, hb⟩

theorem findG_all {α : Type} (f : α → Bool) : ∀ (i : Int) (l : List α), 0 ≤ i → decide (0 ≤ findG (fun x => !f x) i l) = !(l.all f)
  | i, [], _ => by simp [findG]
  | i, a :: r, h => by
    unfold findG
    cases hf : f a
    · simp [hf, h]
    · have := findG_all f (i + 1) r (by omega)
      simp [hf]
      simpa using this

set_option maxHeartbeats 1000000 in
theorem containsCnt_any (r cc : Int) (p : Option Addr) (n c : Nat) (sm : Int) (q : Option Addr) (m d : Nat) (cs : List Cnt) (B : Nat) (w : World) (hn : n ≤ 1000000) (hm : m ≤ 1000000) (hcs : CntsAt w q m cs) (hB : w.cell? ⟨B, 0, none⟩ = some (.func (.func 86) #[.agg #[.int .i64 r, .int .i64 cc, .slice p n c, .int .i64 sm, .slice q m d]] #[])) :
    Calls Try.prog 101 #[.slice q m d, .func (.func 102) #[] #[.pointer (some ⟨B, 0, none⟩)]] w fun e w' => e = .returned (.bool (!(cs.all (cntP n)))) ∧ Below w.heap.size w w' := by
  have HC := hid (indexCnt_any r cc p n c sm q m d cs B w hn hm hcs hB)
  have HF := hid (findG_all (cntP n) 0 cs (by omega))
  clear hcs hB
  go_enter Try.func101, Try.ntmps101
  go_wp2_with fail
  refine HC.out.mono ?_
  rintro e w1 ⟨rfl, hb⟩
  generalize findG (fun x => !cntP n x) 0 cs = z at *
  go_wp2
  go_ret
  exact ⟨ret_bool HF.out, hb⟩

set_option maxHeartbeats 1000000 in
theorem allCnt_any (r cc : Int) (p : Option Addr) (n c : Nat) (sm : Int) (q : Option Addr) (m d : Nat) (cs : List Cnt) (w : World) (hn : n ≤ 1000000) (hm : m ≤ 1000000) (hcs : CntsAt w q m cs) :
    Calls Try.prog 88 #[.slice q m d, .func (.func 86) #[.agg #[.int .i64 r, .int .i64 cc, .slice p n c, .int .i64 sm, .slice q m d]] #[]] w fun e w' => e = .returned (.bool (cs.all (cntP n))) ∧ Below w.heap.size w w' := by
  have HC := hid (containsCnt_any r cc p n c sm q m d cs w.heap.size (w.alloc (.cells #[.func (.func 86) #[.agg #[.int .i64 r, .int .i64 cc, .slice p n c, .int .i64 sm, .slice q m d]] #[]] 131)) hn hm (hcs.alloc _) (cell_box _ _ _ 0 _ rfl))
  clear hcs
  have hmf : ∀ (fn : Fn) (first cap : Array Value) (w : World), (Instr.makeFunc fn first cap).run Try.prog w = .ok (.func fn first cap) w := fun _ _ _ _ => rfl
  go_enter Try.func88, Try.ntmps88
  go_wp2_with fail
  refine HC.out.mono ?_
  rintro e w1 ⟨rfl, hb⟩
  go_wp2
  go_ret
  exact ⟨ret_bool (by simp), ((Below.refl _ _).alloc (Nat.le_refl _) _).trans (hb.mono (by simp))⟩
end Go.Proofs.Ytlicijnaacdceaa

/- Walks over package frame, part B: all over numbers, CheckField, minimum, Index, Contains. -/
namespace Go.Proofs.Ytlicijnaacdceaa
open Go.RowKit

set_option maxHeartbeats 1000000 in
theorem notstem_any (x : Int) (B : Nat) (w : World) (hB : w.cell? ⟨B, 0, none⟩ = some (.func (.func 87) #[] #[])) :
    Calls Try.prog 106 #[.int .i64 x, .pointer (some ⟨B, 0, none⟩)] w fun e w' => e = .returned (.bool (!inB x 0 9)) ∧ w' = w := by
  go_enter Try.func106, Try.ntmps106
  go_wp2_with (go_at_call 87; refine (stems_any _ _).mono ?_; rintro e w' ⟨rfl, rfl⟩)
  go_ret
  exact ⟨rfl, rfl⟩

set_option maxHeartbeats 1000000 in
theorem indexStem_any (p : Option Addr) (n c : Nat) (l : List Int) (B : Nat) (w : World) (hn : n ≤ 1000000) (hl : IntsAt w p n l) (hB : w.cell? ⟨B, 0, none⟩ = some (.func (.func 87) #[] #[])) :
    Calls Try.prog 110 #[.slice p n c, .func (.func 106) #[] #[.pointer (some ⟨B, 0, none⟩)]] w fun e w' => e = .returned (.int .i64 (findG (fun x => !inB x 0 9) 0 l)) ∧ w' = w := by
  have HN := hid (fun (x : Int) => notstem_any x B w hB)
  have HL := hid hl
  clear hl hB
  go_enter Try.func110, Try.ntmps110
  go_wp2
  go_loop [5, 8] (fun _ i => ∃ k : Nat, k ≤ n ∧ i = .int .i64 k ∧ findG (fun x => !inB x 0 9) k (l.drop k) = findG (fun x => !inB x 0 9) 0 l) (fun _ i => n - (intOf i).toNat)
  case atStart => exact ⟨0, by omega, rfl, rfl⟩
  case round =>
    obtain ⟨k, hk, rfl, hr⟩ := hrel
    have HR := hid hr
    clear hr
    by_cases hlt : k < n
    · obtain ⟨b1, o1, rfl, hb1, hc1⟩ := HL.out.at hlt
      have HD := hid (drop_at l k (by have := HL.out.1; omega))
      cases hp : (!inB (l[k]?.getD 0) 0 9)
      · have HF : Hid (findG (fun x => !inB x 0 9) ((k + 1 : Nat) : Int) (l.drop (k + 1)) = findG (fun x => !inB x 0 9) 0 l) := by show _ = _; rw [← HR.out, HD.out, findG]; simp only [hp]; rfl
        go_wp2_with (go_at_call 106; refine (HN.out _).mono ?_; rintro e w1 ⟨rfl, rfl⟩)
        go_round
        case rel => exact ⟨k + 1, by omega, by go_num, HF.out⟩
        case measure => simp [intOf]; omega
      · have HF : Hid ((k : Int) = findG (fun x => !inB x 0 9) 0 l) := by show _ = _; rw [← HR.out, HD.out, findG]; simp only [hp]; rfl
        go_wp2_with (go_at_call 106; refine (HN.out _).mono ?_; rintro e w1 ⟨rfl, rfl⟩)
        go_ret
        exact ⟨ret_int HF.out, rfl⟩
    · have HF : Hid (-1 = findG (fun x => !inB x 0 9) 0 l) := by show _ = _; rw [← HR.out, List.drop_of_length_le (by have := HL.out.1; omega)]; rfl
      go_wp2
      go_ret
      exact ⟨ret_int HF.out, rfl⟩

set_option maxHeartbeats 1000000 in
theorem containsStem_any (p : Option Addr) (n c : Nat) (l : List Int) (B : Nat) (w : World) (hn : n ≤ 1000000) (hl : IntsAt w p n l) (hB : w.cell? ⟨B, 0, none⟩ = some (.func (.func 87) #[] #[])) :
    Calls Try.prog 105 #[.slice p n c, .func (.func 106) #[] #[.pointer (some ⟨B, 0, none⟩)]] w fun e w' => e = .returned (.bool (!(l.all fun x => inB x 0 9))) ∧ w' = w := by
  have HC := hid (indexStem_any p n c l B w hn hl hB)
  have HF := hid (findG_all (fun x => inB x 0 9) 0 l (by omega))
  clear hl hB
  go_enter Try.func105, Try.ntmps105
  go_wp2_with fail
  refine HC.out.mono ?_
  rintro e w1 ⟨rfl, rfl⟩
  generalize findG (fun x => !inB x 0 9) 0 l = z at *
  go_wp2
  go_ret
  exact ⟨ret_bool HF.out, rfl⟩

set_option maxHeartbeats 1000000 in
theorem allStem_any (p : Option Addr) (n c : Nat) (l : List Int) (w : World) (hn : n ≤ 1000000) (hl : IntsAt w p n l) :
    Calls Try.prog 94 #[.slice p n c, .func (.func 87) #[] #[]] w fun e w' => e = .returned (.bool (l.all fun x => inB x 0 9)) ∧ Below w.heap.size w w' := by
  have HC := hid (containsStem_any p n c l w.heap.size (w.alloc (.cells #[.func (.func 87) #[] #[]] 128)) hn (hl.alloc _) (cell_box _ _ _ 0 _ rfl))
  clear hl
  go_enter Try.func94, Try.ntmps94
  go_wp2_with fail
  refine HC.out.mono ?_
  rintro e w1 ⟨rfl, rfl⟩
  go_wp2
  go_ret
  exact ⟨ret_bool (by simp), (Below.refl _ _).alloc (Nat.le_refl _) _⟩

/-- ErrArg if a field is not valid, otherwise OK. -/
def errF (b : Bool) : Int := if b = true then 0 else 1

set_option maxHeartbeats 2000000 in
theorem checkField_any (r cc : Int) (p : Option Addr) (n c : Nat) (l : List Int) (w : World) (hl : IntsAt w p n l) (hn : n ≤ 1000000) :
    Calls Try.prog 61 #[.agg #[.int .i64 r, .int .i64 cc, .slice p n c]] w fun e w' => e = .returned (.int .i64 (errF (isFieldB r cc l))) ∧ Below w.heap.size w w' := by
  have HA := hid (fun W (hW : Below w.heap.size w W) => allStem_any p n c l W hn (hl.below hW))
  have HF := hid (show isFieldB r cc l = (inB r 1 4 && (inB cc 1 4 && (decide (r * cc ≤ 9) && (decide ((n : Int) = r * cc) && l.all fun x => inB x 0 9)))) by rw [isFieldB, ← hl.1])
  clear hl
  cases h1 : inB r 1 4
  · go_enter Try.func61, Try.ntmps61
    go_wp2_with (go_at_call 90; refine (within_any _ _ _ _).mono ?_; rintro e w' ⟨rfl, rfl⟩)
    go_ret
    exact ⟨ret_int (by rw [HF.out, h1]; rfl), (Below.refl _ _).alloc (Nat.le_refl _) _⟩
  · cases h2 : inB cc 1 4
    · go_enter Try.func61, Try.ntmps61
      go_wp2_with (go_at_call 90; refine (within_any _ _ _ _).mono ?_; rintro e w' ⟨rfl, rfl⟩)
      go_ret
      exact ⟨ret_int (by rw [HF.out, h1, h2]; rfl), (Below.refl _ _).alloc (Nat.le_refl _) _⟩
    · obtain ⟨hp0, hp1⟩ := prod_bd h1 h2
      by_cases h3 : 9 < r * cc
      · have h3' : ¬ r * cc ≤ 9 := by omega
        have HG := hid (show isFieldB r cc l = false by rw [HF.out, h1, h2]; simp [h3'])
        clear h3'
        go_enter Try.func61, Try.ntmps61
        go_wp2_with (go_at_call 90; refine (within_any _ _ _ _).mono ?_; rintro e w' ⟨rfl, rfl⟩)
        go_ret
        exact ⟨ret_int (by rw [HG.out]; rfl), (Below.refl _ _).alloc (Nat.le_refl _) _⟩
      · by_cases h4 : (n : Int) = r * cc
        · have h4' : ((n : Int) != r * cc) = false := by simp [h4]
          have HG := hid (show isFieldB r cc l = l.all fun x => inB x 0 9 by rw [HF.out, h1, h2]; simp [h4]; omega)
          clear h4
          cases h5 : l.all fun x => inB x 0 9
          all_goals
            rw [h5] at HA HG
            go_enter Try.func61, Try.ntmps61
            go_wp2_with (first | (go_at_call 90; refine (within_any _ _ _ _).mono ?_; rintro e w' ⟨rfl, rfl⟩) | (go_at_call 94; refine (HA.out _ ?_).mono ?_; exact (Below.refl _ _).alloc (Nat.le_refl _) _; rintro e w1 ⟨rfl, hb⟩))
            go_ret
            exact ⟨ret_int (by rw [HG.out]; rfl), ((Below.refl _ _).alloc (Nat.le_refl _) _).trans (hb.mono (by simp))⟩
        · have h4' : ((n : Int) != r * cc) = true := by simp [h4]
          have HG := hid (show isFieldB r cc l = false by rw [HF.out, h1, h2]; simp [h4])
          clear h4
          go_enter Try.func61, Try.ntmps61
          go_wp2_with (go_at_call 90; refine (within_any _ _ _ _).mono ?_; rintro e w' ⟨rfl, rfl⟩)
          go_ret
          exact ⟨ret_int (by rw [HG.out]; rfl), (Below.refl _ _).alloc (Nat.le_refl _) _⟩

def minI (x y : Int) : Int := if y < x then y else x

set_option maxHeartbeats 1000000 in
theorem min2_any (b : Nat) (x y : Int) (w : World) (h0 : w.cell? ⟨b, 0, none⟩ = some (.int .i64 x)) (h1 : w.cell? ⟨b, 1, none⟩ = some (.int .i64 y)) :
    Calls Try.prog 89 #[.slice (some ⟨b, 0, none⟩) 2 2] w fun e w' => e = .returned (.int .i64 (minI x y)) ∧ w' = w := by
  have HM : Hid (Calls Try.prog 103 #[.slice (some ⟨b, 0, none⟩) 2 2] w fun e w' => e = .returned (.int .i64 (minI x y)) ∧ w' = w) := by
    show Calls _ _ _ _ _
    by_cases hxy : y < x
    · go_enter Try.func103, Try.ntmps103
      go_wp2
      refine wp_loop_rounds 3 ?_
      rw [rounds_succ]
      go_wp2
      rw [rounds_succ]
      go_wp2
      go_ret
      exact ⟨ret_int (by rw [minI, if_pos hxy]), rfl⟩
    · go_enter Try.func103, Try.ntmps103
      go_wp2
      refine wp_loop_rounds 3 ?_
      rw [rounds_succ]
      go_wp2
      rw [rounds_succ]
      go_wp2
      go_ret
      exact ⟨ret_int (by rw [minI, if_neg (by omega)]), rfl⟩
  clear h0 h1
  go_enter Try.func89, Try.ntmps89
  go_wp2_with (go_at_call 103; refine HM.out.mono ?_; rintro e w' ⟨rfl, rfl⟩)
  go_ret
  exact ⟨rfl, rfl⟩

/-- Index: the first place of a number; -1 if there is none. -/
def indexG (x : Int) : Int → List Int → Int
  | _, [] => -1
  | i, a :: r => if (x == a) = true then i else indexG x (i + 1) r

set_option maxHeartbeats 1000000 in
theorem index_any (p : Option Addr) (n c : Nat) (l : List Int) (x : Int) (w : World) (hl : IntsAt w p n l) (hn : n ≤ 1000000) :
    Calls Try.prog 92 #[.slice p n c, .int .i64 x] w fun e w' => e = .returned (.int .i64 (indexG x 0 l)) ∧ w' = w := by
  have HL := hid hl
  clear hl
  go_enter Try.func92, Try.ntmps92
  go_wp2
  go_loop [5, 8] (fun _ i => ∃ k : Nat, k ≤ n ∧ i = .int .i64 k ∧ indexG x k (l.drop k) = indexG x 0 l) (fun _ i => n - (intOf i).toNat)
  case atStart => exact ⟨0, by omega, rfl, rfl⟩
  case round =>
    obtain ⟨k, hk, rfl, hr⟩ := hrel
    have HR := hid hr
    clear hr
    by_cases hlt : k < n
    · obtain ⟨b1, o1, rfl, hb1, hc1⟩ := HL.out.at hlt
      have HD := hid (drop_at l k (by have := HL.out.1; omega))
      cases hp : (x == l[k]?.getD 0)
      · have HF : Hid (indexG x ((k + 1 : Nat) : Int) (l.drop (k + 1)) = indexG x 0 l) := by show _ = _; rw [← HR.out, HD.out, indexG]; simp only [hp]; rfl
        go_wp2
        go_round
        case rel => exact ⟨k + 1, by omega, by go_num, HF.out⟩
        case measure => simp [intOf]; omega
      · have HF : Hid ((k : Int) = indexG x 0 l) := by show _ = _; rw [← HR.out, HD.out, indexG]; simp only [hp]; rfl
        go_wp2
        go_ret
        exact ⟨ret_int HF.out, rfl⟩
    · have HF : Hid (-1 = indexG x 0 l) := by show _ = _; rw [← HR.out, List.drop_of_length_le (by have := HL.out.1; omega)]; rfl
      go_wp2
      go_ret
      exact ⟨ret_int HF.out, rfl⟩

theorem indexG_has (x : Int) : ∀ (i : Int) (l : List Int), 0 ≤ i → decide (0 ≤ indexG x i l) = hasB l x
  | i, [], _ => by simp [indexG, hasB]
  | i, a :: r, h => by
    unfold indexG hasB
    cases hf : (x == a)
    · have e : (a == x) = false := by simp at hf ⊢; omega
      simp [e, indexG_has x (i + 1) r (by omega)]
    · have e : (a == x) = true := by simp at hf ⊢; omega
      simp [e, h]

set_option maxHeartbeats 1000000 in
theorem contains_any (p : Option Addr) (n c : Nat) (l : List Int) (x : Int) (w : World) (hl : IntsAt w p n l) (hn : n ≤ 1000000) :
    Calls Try.prog 104 #[.slice p n c, .int .i64 x] w fun e w' => e = .returned (.bool (hasB l x)) ∧ w' = w := by
  have HC := hid (index_any p n c l x w hl hn)
  have HF := hid (indexG_has x 0 l (by omega))
  clear hl
  go_enter Try.func104, Try.ntmps104
  go_wp2_with fail
  refine HC.out.mono ?_
  rintro e w1 ⟨rfl, rfl⟩
  generalize indexG x 0 l = z at *
  go_wp2
  go_ret
  exact ⟨ret_bool HF.out, rfl⟩
end Go.Proofs.Ytlicijnaacdceaa

/- The map of what is known, and of what was told. -/
namespace Go.Proofs.Ytlicijnaacdceaa
open Go.RowKit

theorem Try.laidOut : laidOutB Try.prog = true := by kernel_rfl
theorem Try.types_size : Try.prog.types.size = 167 := by kernel_rfl
theorem Try.key145 : Maps.Keyed Try.prog 145 := Maps.Keyed.of_law (deep_law_laid Try.laidOut (m := 3) (by decide) (by rw [Try.types_size]; decide) (by kernel_rfl) (by kernel_rfl))
theorem Try.key116 : Maps.Keyed Try.prog 116 := Maps.Keyed.of_law (deep_law_laid Try.laidOut (m := 3) (by decide) (by rw [Try.types_size]; decide) (by kernel_rfl) (by kernel_rfl))
theorem Try.keyType145 : Try.prog.keyType 145 = true := by kernel_rfl
theorem Try.keyType116 : Try.prog.keyType 116 = true := by kernel_rfl
theorem Try.cells145 : Try.prog.cellsOf 145 = 2 := by kernel_rfl
theorem Try.cells116 : Try.prog.cellsOf 116 = 9 := by kernel_rfl
theorem Try.cells3 : Try.prog.cellsOf 3 = 1 := by kernel_rfl

theorem wf_i64 {a : Int} (h : -1000000 ≤ a ∧ a ≤ 1000000) : (Lit.int .i64 a).wf = true := by
  simp [Lit.wf, IntKind.min, IntKind.max, IntKind.bits, IntKind.signed]; omega

theorem keyLits_int3 (d : Nat) (a : Int) (h : -1000000 ≤ a ∧ a ≤ 1000000) : Try.prog.keyLits (d + 1) 3 [.int .i64 a] = some [.int .i64 a] := by
  unfold Program.keyLits
  rw [Try.underlying3]
  simp [wf_i64 h]

theorem keyLits_145 (d : Nat) (a b : Int) (ha : -1000000 ≤ a ∧ a ≤ 1000000) (hb : -1000000 ≤ b ∧ b ≤ 1000000) : Try.prog.keyLits (d + 1 + 1) 145 [.int .i64 a, .int .i64 b] = some [.int .i64 a, .int .i64 b] := by
  unfold Program.keyLits
  rw [Try.underlying145]
  simp [Try.cells145, Try.cells3, keyLits_int3 d a ha, keyLits_int3 d b hb]

theorem key_spot (a b : Int) (ha : -1000000 ≤ a ∧ a ≤ 1000000) (hb : -1000000 ≤ b ∧ b ≤ 1000000) : ∃ kl, keyOf Try.prog 145 (.agg #[.int .i64 a, .int .i64 b]) = some kl := by
  have hf : Value.formed Try.prog 145 (.agg #[.int .i64 a, .int .i64 b]) = true := by simp [Value.formed, Try.underlying145, Try.cells145]
  refine ⟨.string (keyBytes [.int .i64 a, .int .i64 b]), ?_⟩
  rw [keyOf, Try.underlying145]
  simp only [Try.keyType145, hf, Bool.and_self, if_true, Try.types_size]
  have := keyLits_145 166 a b ha hb
  simp only [Value.cells]
  rw [this]; rfl

theorem keyLits_116 (d : Nat) (h0 h1 h2 h3 h4 h5 h6 h7 h8 : Int) (e0 : -1000000 ≤ h0 ∧ h0 ≤ 1000000) (e1 : -1000000 ≤ h1 ∧ h1 ≤ 1000000) (e2 : -1000000 ≤ h2 ∧ h2 ≤ 1000000) (e3 : -1000000 ≤ h3 ∧ h3 ≤ 1000000) (e4 : -1000000 ≤ h4 ∧ h4 ≤ 1000000)
    (e5 : -1000000 ≤ h5 ∧ h5 ≤ 1000000) (e6 : -1000000 ≤ h6 ∧ h6 ≤ 1000000) (e7 : -1000000 ≤ h7 ∧ h7 ≤ 1000000) (e8 : -1000000 ≤ h8 ∧ h8 ≤ 1000000) :
    Try.prog.keyLits (d + 1 + 1) 116 [.int .i64 h0, .int .i64 h1, .int .i64 h2, .int .i64 h3, .int .i64 h4, .int .i64 h5, .int .i64 h6, .int .i64 h7, .int .i64 h8] =
      some [.int .i64 h0, .int .i64 h1, .int .i64 h2, .int .i64 h3, .int .i64 h4, .int .i64 h5, .int .i64 h6, .int .i64 h7, .int .i64 h8] := by
  unfold Program.keyLits
  rw [Try.underlying116]
  simp [Try.cells116, Try.cells3, List.range_succ, keyLits_int3 d _ e0, keyLits_int3 d _ e1, keyLits_int3 d _ e2, keyLits_int3 d _ e3, keyLits_int3 d _ e4, keyLits_int3 d _ e5, keyLits_int3 d _ e6, keyLits_int3 d _ e7, keyLits_int3 d _ e8]

theorem key_hits (h : List Int) (hl : h.length = 9) (hb : ∀ a ∈ h, -1000000 ≤ a ∧ a ≤ 1000000) : ∃ kl, keyOf Try.prog 116 (.agg (h.map (Value.int .i64)).toArray) = some kl := by
  match h, hl with
  | [h0, h1, h2, h3, h4, h5, h6, h7, h8], _ =>
    have hf : Value.formed Try.prog 116 (.agg ([h0, h1, h2, h3, h4, h5, h6, h7, h8].map (Value.int .i64)).toArray) = true := by simp [Value.formed, Try.underlying116, Try.cells116]
    have := keyLits_116 166 h0 h1 h2 h3 h4 h5 h6 h7 h8 (hb _ (by simp)) (hb _ (by simp)) (hb _ (by simp)) (hb _ (by simp)) (hb _ (by simp)) (hb _ (by simp)) (hb _ (by simp)) (hb _ (by simp)) (hb _ (by simp))
    refine ⟨.string (keyBytes [.int .i64 h0, .int .i64 h1, .int .i64 h2, .int .i64 h3, .int .i64 h4, .int .i64 h5, .int .i64 h6, .int .i64 h7, .int .i64 h8]), ?_⟩
    rw [keyOf, Try.underlying116]
    simp only [Try.keyType116, hf, Bool.and_self, if_true, Try.types_size]
    simp only [Value.cells, List.map_cons, List.map_nil]
    rw [this]; rfl

theorem Try.zero4 (w : World) : (zeroValue 4).run Try.prog w = .ok (.bool false) w := by kernel_rfl

/-- Block b of W is a map of bools, of at most n entries, that reads as M. -/
def MapIs (W : World) (k b n : Nat) (M : Value → Option Bool) : Prop :=
  ∃ es clock, W.heap[b]? = some (.map es clock) ∧ Go.WideElems.Fit (H := Unit) Try.prog k (plainElem Try.prog 4) es clock ∧ es.size ≤ n ∧
    (∀ x ∈ es.toList, ∃ v, x.val = .bool v ∧ M x.key = some v) ∧ ∀ key v, M key = some v → ∃ x ∈ es.toList, x.key = key

theorem MapIs.made (w : World) (k : Nat) : MapIs (w.alloc (.map #[] 0)) k w.heap.size 0 fun _ => none := by
  obtain ⟨es, clock, h1, h2, h3, _⟩ := World.ownsMap_made (H := Unit) w Try.prog k (plainElem Try.prog 4)
  have e : es = #[] := Array.eq_empty_of_size_eq_zero (by omega)
  subst e
  exact ⟨#[], clock, h1, h2, by simp, by simp, by simp⟩

theorem MapIs.lt {W : World} {k b n : Nat} {M} (h : MapIs W k b n M) : b < W.heap.size := by
  obtain ⟨es, clock, hb, _⟩ := h
  exact (Array.getElem?_eq_some_iff.1 hb).1

theorem MapIs.kept {W W' : World} {k b n : Nat} {M} (h : MapIs W k b n M) (hb : W'.heap[b]? = W.heap[b]?) : MapIs W' k b n M := by
  obtain ⟨es, clock, h1, r⟩ := h
  exact ⟨es, clock, hb.trans h1, r⟩

theorem MapIs.below {W W' : World} {k b n : Nat} {M} (h : MapIs W k b n M) (hb : Below W.heap.size W W') : MapIs W' k b n M := h.kept (hb.block b h.lt)

theorem MapIs.look {W : World} {k b n t : Nat} {M} (h : MapIs W k b n M) (K : Maps.Keyed Try.prog k) (ht : Try.prog.underlying t = some (.map k 4)) {key : Value} {kl : Lit} (hkey : keyOf Try.prog k key = some kl) :
    (Instr.lookup t (.map (some b)) key true).run Try.prog W = .ok (.tuple #[.bool ((M key).getD false), .bool (M key).isSome]) W := by
  obtain ⟨es, clock, hb, F, _, h1, h2⟩ := h
  rcases Maps.fit_look true K ht (Try.zero4 W) hb F hkey with ⟨hrun, hno, _⟩ | ⟨e0, y, hm, hk, hrun, _⟩
  · have e : M key = none := by
      cases hM : M key with
      | none => rfl
      | some v =>
        obtain ⟨x, hx, hxk⟩ := h2 key v hM
        exact absurd hxk (hno x hx)
    rw [hrun, e]; rfl
  · obtain ⟨v, hv, hM⟩ := h1 e0 hm
    rw [hk] at hM
    rw [hrun, hv, hM]; rfl

open Classical in
noncomputable def updM (M : Value → Option Bool) (key : Value) (v : Bool) : Value → Option Bool := fun k => if k = key then some v else M k

theorem MapIs.put {W : World} {k b n t : Nat} {M} (h : MapIs W k b n M) (K : Maps.Keyed Try.prog k) (ht : Try.prog.underlying t = some (.map k 4)) (hn : n < maxLen) {key : Value} {kl : Lit} (hkey : keyOf Try.prog k key = some kl) (v : Bool) :
    ∃ W', (Instr.mapUpdate t (.map (some b)) key (.bool v)).run Try.prog W = .ok () W' ∧ MapIs W' k b (n + 1) (updM M key v) ∧ W.grownBy W' (some b) := by
  obtain ⟨es, clock, hb, F, hs, h1, h2⟩ := h
  obtain ⟨es', clock', hrun, F', hput, _, _, hes⟩ := Maps.fit_store (R' := plainElem Try.prog 4) K ht hb F (Nat.lt_of_le_of_lt hs hn) (fun _ _ _ _ hz => hz) hkey (plainElem_bool Try.underlying4 v)
  refine ⟨_, hrun, ⟨es', clock', ChangeMaps.heap_setBlock_same hb _, F', ?_, ?_, ?_⟩, ⟨rfl, rfl, rfl, by simp [ChangeMaps.setBlock], fun i _ hi => ChangeMaps.heap_setBlock_other hb _ (fun e => hi (by rw [e]))⟩⟩
  · have e1 : es'.size = ((es'.toList.map (Go.WideElems.rg Try.prog k (plainElem (H := Unit) Try.prog 4))).foldr DataW.insert []).length := by rw [length_sorted]; simp
    rw [e1, hput]
    unfold ChangeMaps.putKey
    rw [length_insert]
    have e2 := List.length_filter_le (ChangeMaps.notKey kl) ((es.toList.map (Go.WideElems.rg Try.prog k (plainElem (H := Unit) Try.prog 4))).foldr DataW.insert [])
    rw [length_sorted] at e2
    simp at e2
    omega
  · intro x hx
    rcases hes x hx with ⟨hx', hne⟩ | ⟨hk, hv⟩
    · obtain ⟨u, hu, hM⟩ := h1 x hx'
      exact ⟨u, hu, by rw [updM, if_neg hne]; exact hM⟩
    · exact ⟨v, hv, by rw [updM, if_pos hk]⟩
  · intro key' v' hM
    have back : ∀ p : Lit × DataW Unit, p ∈ ChangeMaps.putKey kl (DataW.lit (H := Unit) (.bool v)) ((es.toList.map (Go.WideElems.rg Try.prog k (plainElem (H := Unit) Try.prog 4))).foldr DataW.insert []) →
        ∃ x ∈ es'.toList, keyOf Try.prog k x.key = some p.1 := by
      intro p hp
      rw [← hput] at hp
      have hp2 := (WideShapes.sorted_perm _).mem_iff.1 hp
      obtain ⟨x, hx, hxp⟩ := List.mem_map.1 hp2
      obtain ⟨y, hy⟩ := F'.reads x hx
      have m1 := Go.WideElems.rd_key hy
      rw [Go.WideElems.rg_of hy] at hxp
      rw [hxp] at m1
      exact ⟨x, hx, m1⟩
    by_cases hk : key' = key
    · obtain ⟨x, hx, hxk⟩ := back (kl, .lit (.bool v)) (by unfold ChangeMaps.putKey; exact ChangeMaps.mem_insert_iff.2 (.inl rfl))
      exact ⟨x, hx, by rw [hk]; exact K.inj hxk hkey⟩
    · rw [updM, if_neg hk] at hM
      obtain ⟨x, hx, hxk⟩ := h2 key' v' hM
      obtain ⟨y, hy⟩ := F.reads x hx
      have m1 := Go.WideElems.rd_key hy
      have hne : y.1 ≠ kl := by
        intro e
        rw [e] at m1
        exact hk (hxk ▸ K.inj m1 hkey)
      have hin : y ∈ ((es.toList.map (Go.WideElems.rg Try.prog k (plainElem (H := Unit) Try.prog 4))).foldr DataW.insert []) := (WideShapes.sorted_perm _).mem_iff.2 (List.mem_map.2 ⟨x, hx, Go.WideElems.rg_of hy⟩)
      obtain ⟨x', hx', hxk'⟩ := back y (by
        unfold ChangeMaps.putKey
        exact ChangeMaps.mem_insert_iff.2 (.inr (List.mem_filter.2 ⟨hin, (Maps.notKey_iff (K.key hkey)).2 hne⟩)))
      exact ⟨x', hx', by rw [← hxk]; exact K.inj hxk' m1⟩
end Go.Proofs.Ytlicijnaacdceaa

/- CheckSurvey of the program. -/
namespace Go.Proofs.Ytlicijnaacdceaa
open Go.RowKit

def manyP : List Int → Int → Int
  | [], m => m
  | s :: r, m => manyP r (minI (m * (s + 1)) 2001)

theorem manyP_manyG : ∀ (l : List Int) (x y : Int), (∀ a ∈ l, 0 ≤ a ∧ a ≤ 9) → 1 ≤ x → x ≤ 2001 → 1 ≤ y → y ≤ 4000 → (x = y ∧ y ≤ 2000 ∨ 2000 < x ∧ 2000 < y) → decide (2000 < manyP l x) = decide (2000 < manyG l y)
  | [], x, y, _, _, _, _, _, h => by
    unfold manyP manyG
    rw [decide_eq_decide]
    constructor <;> intro _ <;> omega
  | s :: r, x, y, hs, h1, h2, h3, h4, h => by
    unfold manyP manyG minI
    have a1 := mul_bd h1 (by omega) (hs s (by simp)).1 (hs s (by simp)).2
    have a2 := mul_bd h3 h4 (hs s (by simp)).1 (hs s (by simp)).2
    have b1 : x * 1 ≤ x * (s + 1) := Int.mul_le_mul_of_nonneg_left (by have := (hs s (by simp)).1; omega) (by omega)
    have b2 : y * 1 ≤ y * (s + 1) := Int.mul_le_mul_of_nonneg_left (by have := (hs s (by simp)).1; omega) (by omega)
    refine manyP_manyG r _ _ (fun a ha => hs a (by simp [ha])) ?_ ?_ ?_ ?_ ?_
    · split <;> omega
    · split <;> omega
    · split <;> omega
    · split <;> omega
    · rcases h with ⟨rfl, h⟩ | h
      · split <;> split <;> omega
      · split <;> split <;> omega

theorem cntP_ok (n : Nat) : cntP n = cntOkB n := by
  funext c
  rw [Bool.eq_iff_iff]
  simp only [cntP, cntOkB, inB, Bool.and_eq_true, decide_eq_true_eq, Bool.not_eq_true', decide_eq_false_iff_not]
  omega

set_option maxHeartbeats 4000000 in
theorem checkSurvey_any (r cc : Int) (p : Option Addr) (n c : Nat) (l : List Int) (sm : Int) (q : Option Addr) (m d : Nat) (cs : List Cnt) (w : World) (hl : IntsAt w p n l) (hcs : CntsAt w q m cs) (hn : n ≤ 100) (hm : m ≤ 100) :
    Calls Try.prog 52 #[.agg #[.int .i64 r, .int .i64 cc, .slice p n c, .int .i64 sm, .slice q m d]] w fun e w' => e = .returned (.int .i64 (faultL r cc l sm cs)) ∧ Below w.heap.size w w' := by
  have HF := hid (show faultL r cc l sm cs = if 6 < m then 3 else if (isFieldB r cc l && inB sm 0 9) = false then 1 else if cs.all (cntP n) = false then 1 else if 2000 < manyL l then 3 else 0 by rw [faultL, ← hl.1, ← hcs.1, cntP_ok])
  have HI := hid (fun W (hW : Below w.heap.size w W) => checkField_any r cc p n c l W (hl.below hW) (by omega))
  have HA := hid (fun W (hW : Below w.heap.size w W) => allCnt_any r cc p n c sm q m d cs W (by omega) (by omega) (hcs.below hW))
  have HL := hid hl
  have hmf : ∀ (fn : Fn) (first cap : Array Value) (w : World), (Instr.makeFunc fn first cap).run Try.prog w = .ok (.func fn first cap) w := fun _ _ _ _ => rfl
  clear hl hcs
  by_cases h6 : 6 < m
  · go_enter Try.func52, Try.ntmps52
    go_wp2
    go_ret
    exact ⟨ret_int (by rw [HF.out, if_pos h6]), (Below.refl _ _).alloc (Nat.le_refl _) _⟩
  · cases h1 : isFieldB r cc l
    · go_enter Try.func52, Try.ntmps52
      go_wp2_with fail
      refine (HI.out _ ?_).mono ?_
      · exact (Below.refl _ _).alloc (Nat.le_refl _) _
      rw [h1, show errF false = (1 : Int) from rfl]
      rintro e w1 ⟨rfl, hb⟩
      go_wp2
      go_ret
      exact ⟨ret_int (by rw [HF.out, if_neg h6, h1]; rfl), Boxed1.below (Below.mono hb (by simp))⟩
    · have hq := field_facts h1
      have hq2 : ∀ x ∈ l, 0 ≤ x ∧ x ≤ 9 := hq.2.2.2.2.2.2.2
      have HPG := hid (manyP_manyG l 1 1 hq2 (by omega) (by omega) (by omega) (by omega) (.inl ⟨rfl, by omega⟩))
      have HQ := hid hq2
      clear hq hq2
      cases h2 : inB sm 0 9
      · go_enter Try.func52, Try.ntmps52
        go_wp2_with fail
        refine (HI.out _ ?_).mono ?_
        · exact (Below.refl _ _).alloc (Nat.le_refl _) _
        rw [h1, show errF true = (0 : Int) from rfl]; rintro e w1 ⟨rfl, hb⟩
        have HB : Boxed1 w #[.int .i64 r, .int .i64 cc, .slice p n c, .int .i64 sm, .slice q m d] 36 w1 := hb.mono (by simp)
        have hs3 := HB.cell 3 (v := .int .i64 sm) rfl
        clear hb
        go_wp2_with (go_at_call 87; refine (stems_any _ _).mono ?_; rintro e w' ⟨rfl, rfl⟩)
        go_ret
        exact ⟨ret_int (by rw [HF.out, if_neg h6, h1, h2]; rfl), HB.below⟩
      · cases h3 : cs.all (cntP n)
        · go_enter Try.func52, Try.ntmps52
          go_wp2_with fail
          refine (HI.out _ ?_).mono ?_
          · exact (Below.refl _ _).alloc (Nat.le_refl _) _
          rw [h1, show errF true = (0 : Int) from rfl]; rintro e w1 ⟨rfl, hb⟩
          have HB : Boxed1 w #[.int .i64 r, .int .i64 cc, .slice p n c, .int .i64 sm, .slice q m d] 36 w1 := hb.mono (by simp)
          have hs3 := HB.cell 3 (v := .int .i64 sm) rfl
          have hs4 := HB.cell 4 (v := .slice q m d) rfl
          clear hb
          go_wp2_with (go_at_call 87; refine (stems_any _ _).mono ?_; rintro e w' ⟨rfl, rfl⟩)
          refine (HA.out _ HB.below).mono ?_
          rw [h3]
          rintro e w2 ⟨rfl, hb2⟩
          have HB := HB.step hb2
          clear hb2
          go_wp2
          go_ret
          exact ⟨ret_int (by rw [HF.out, if_neg h6, h1, h2, h3]; rfl), HB.below⟩
        · go_enter Try.func52, Try.ntmps52
          go_wp2_with fail
          refine (HI.out _ ?_).mono ?_
          · exact (Below.refl _ _).alloc (Nat.le_refl _) _
          rw [h1, show errF true = (0 : Int) from rfl]
          rintro e w1 ⟨rfl, hb⟩
          have HB : Boxed1 w #[.int .i64 r, .int .i64 cc, .slice p n c, .int .i64 sm, .slice q m d] 36 w1 := hb.mono (by simp)
          have hs3 := HB.cell 3 (v := .int .i64 sm) rfl
          have hs4 := HB.cell 4 (v := .slice q m d) rfl
          clear hb
          go_wp2_with (go_at_call 87; refine (stems_any _ _).mono ?_; rintro e w' ⟨rfl, rfl⟩)
          refine (HA.out _ HB.below).mono ?_
          rw [h3]
          rintro e w2 ⟨rfl, hb2⟩
          have HB := HB.step hb2
          have hs2 := HB.cell 2 (v := .slice p n c) rfl
          clear hb2 hs3 hs4
          go_wp2
          go_loopw [4, 36] (fun x i wr => ∃ (k : Nat) (z : Int), k ≤ n ∧ i = .int .i64 k ∧ x = .int .i64 z ∧ 1 ≤ z ∧ z ≤ 2001 ∧ manyP (l.drop k) z = manyP l 1 ∧ Boxed1 w #[.int .i64 r, .int .i64 cc, .slice p n c, .int .i64 sm, .slice q m d] 36 wr) (fun _ i _ => n - (intOf i).toNat)
          case atStart => exact ⟨0, 1, Nat.zero_le _, rfl, rfl, by omega, by omega, rfl, HB⟩
          case round =>
            clear HB hs2
            obtain ⟨k, z, hk, rfl, rfl, hz0, hz1, hr, HB⟩ := hrel
            have HR := hid hr
            clear hr
            by_cases hlt : k < n
            · obtain ⟨b1, o1, rfl, hb1, hc1⟩ := (HL.out.below HB.below).at hlt
              have HD := hid (drop_at l k (by have := HL.out.1; omega))
              have hx := HQ.out (l[k]?.getD 0) (getD_mem (by have := HL.out.1; omega))
              generalize l[k]?.getD 0 = a at *
              have hm0 := mul_bd hz0 (by omega) hx.1 hx.2
              have HG : Hid (manyP (l.drop (k + 1)) (minI (z * (a + 1)) 2001) = manyP l 1) := by show _ = _; rw [← HR.out, HD.out, manyP]
              have hmi : 1 ≤ minI (z * (a + 1)) 2001 ∧ minI (z * (a + 1)) 2001 ≤ 2001 := by unfold minI; split <;> omega
              go_wp2_with fail
              refine (min2_any _ _ _ _ (cell_box _ _ _ 0 _ rfl) (cell_box _ _ _ 1 _ rfl)).mono ?_
              rintro e w' ⟨rfl, rfl⟩
              generalize minI (z * (a + 1)) 2001 = y at *
              go_wp2
              go_roundw
              case rel => exact ⟨k + 1, y, by omega, by go_num, rfl, hmi.1, hmi.2, HG.out, HB.alloc _⟩
              case measure => simp [intOf]; omega
            · have HG : Hid (z = manyP l 1) := by show _ = _; rw [← HR.out, List.drop_of_length_le (by have := HL.out.1; omega)]; rfl
              have HM : Hid (decide (2000 < z) = decide (2000 < manyL l)) := by show _ = _; rw [HG.out, HPG.out]; rfl
              by_cases h7 : 2000 < z
              · have h8 : 2000 < manyL l := by have := HM.out; simpa [h7] using this
                go_wp2
                go_ret
                exact ⟨ret_int (by rw [HF.out, if_neg h6, h1, h2, h3, if_pos h8]; rfl), HB.below⟩
              · have h8 : ¬ 2000 < manyL l := by have := HM.out; simpa [h7] using this
                go_wp2
                go_ret
                exact ⟨ret_int (by rw [HF.out, if_neg h6, h1, h2, h3, if_neg (show ¬ 2000 < manyL l by omega)]; rfl), HB.below⟩
end Go.Proofs.Ytlicijnaacdceaa

/- The places of a lot, in the program. -/
namespace Go.Proofs.Ytlicijnaacdceaa
open Go.RowKit

theorem nxt_mod {L m : Nat} (h : m < L) : ((m : Int) + 1) % (L : Int) = ((nxt L m : Nat) : Int) := by
  unfold nxt
  split
  · rename_i e
    rw [show ((m : Int) + 1) = (L : Int) by omega, Int.emod_self]; rfl
  · rw [Int.emod_eq_of_lt (by omega) (by omega)]; rfl

set_option maxHeartbeats 8000000 in
set_option maxRecDepth 20000 in
theorem drawn_any (r cc : Int) (p : Option Addr) (n c : Nat) (seed step draws : Int) (w : World) (hn : n ≤ 9) (hn1 : 1 ≤ n) (hs : 0 ≤ seed) (hs' : seed ≤ 9999) (ht : 0 ≤ step) (ht' : step ≤ 9999) (hd : 0 ≤ draws) (hd' : draws ≤ n) :
    Calls Try.prog 91 #[.agg #[.int .i64 r, .int .i64 cc, .slice p n c], .agg #[.int .i64 seed, .int .i64 step, .int .i64 draws]] w (RetInts w (drawL n seed step draws)) := by
  obtain ⟨D, rfl⟩ : ∃ D : Nat, draws = D := ⟨draws.toNat, by omega⟩
  have HDL : Hid (drawL n seed step D = drawG n step D 0 seed []) := by show _ = _; simp [drawL]
  go_enter Try.func91, Try.ntmps91
  go_wp2
  go_loopw [4, 5, 12] (fun v u i wr => ∃ (k : Nat) (x : Int) (out : List Int), k ≤ D ∧ i = .int .i64 k ∧ u = .int .i64 x ∧ 0 ≤ x ∧ x ≤ 9999 ∧ OwnInts wr (w.heap.size + 2) v out ∧ out.length = k ∧ drawG n step (D - k) k x out = drawL n seed step D ∧
      Boxed2 w #[.int .i64 r, .int .i64 cc, .slice p n c] 33 #[.int .i64 seed, .int .i64 step, .int .i64 D] 87 wr) (fun _ _ i _ => D - (intOf i).toNat)
  case atStart =>
    exact ⟨0, seed, [], by omega, rfl, rfl, hs, hs', ownInts_nil _ _, rfl, HDL.out.symm, Below.refl _ _⟩
  case round =>
    obtain ⟨k, x, out, hk, rfl, rfl, hx0, hx1, ho, hol, hr, HB⟩ := hrel
    have HR := hid hr
    have HOL := hid hol
    clear hr hol
    have hs0 := HB.cell1 0 (v := .int .i64 r) rfl
    have hs1 := HB.cell1 1 (v := .int .i64 cc) rfl
    have hs2 := HB.cell1 2 (v := .slice p n c) rfl
    have ht1 := HB.cell2 1 (v := .int .i64 step) rfl
    have ht2 := HB.cell2 2 (v := .int .i64 D) rfl
    by_cases hlt : k < D
    · obtain ⟨x', hx'⟩ : ∃ x' : Nat, (31 * x + step + k) % 9973 = x' := ⟨((31 * x + step + k) % 9973).toNat, by omega⟩
      have hx'1 : x' < 9973 := by omega
      have hmod : x' % n < n := Nat.mod_lt _ (by omega)
      have hcast : ((x' : Int) % n) = ((x' % n : Nat) : Int) := by simp
      have HP := hid (probe_ok out n (x' % n) hmod (by rw [HOL.out]; omega))
      have HPF := hid (probe_free out n n (x' % n) HP.out)
      have HPL := hid (probe_lt out n n (x' % n) hmod)
      have HDG : Hid (drawG n step (D - (k + 1)) (k + 1 : Nat) x' (out ++ [((probeG out n n (x' % n) : Nat) : Int)]) = drawL n seed step D) := by
        have e : D - k = (D - (k + 1)) + 1 := by omega
        show _ = _
        rw [← HR.out, e, drawG, hx', hcast, Int.toNat_natCast]; rfl
      have HX := hid hx'
      have HC := hid hcast
      have hmm : 0 ≤ (31 * x + step + k) % 9973 := Int.emod_nonneg _ (by omega)
      have hnn1 : (1 : Int) ≤ n := by omega
      have hn0 : ¬ (n : Int) = 0 := by omega
      clear hx' hcast
      go_wp2_with fail
      refine (places_any _ _ _ _ _ _).mono ?_
      rintro e w1 ⟨rfl, hb1⟩
      rw [HX.out]
      clear hmm
      go_wp2_with fail
      rw [HC.out]
      have HB1 := HB.step (hb1.mono HB.size)
      have ho1 : OwnInts w1 (w.heap.size + 2) u4 out := ho.below hb1
      clear ho hb1 HB hs0 hs1 hs2 ht1 ht2
      go_hide hQ
      have hxm : x' % n < n := hmod
      generalize x' % n = m0 at *
      go_loopg [7] n (fun g v wr => ∃ m : Nat, m < n ∧ v = .int .i64 m ∧ ProbeOk out n g m ∧ probeG out n g m = probeG out n n m0 ∧ Boxed2 w #[.int .i64 r, .int .i64 cc, .slice p n c] 33 #[.int .i64 seed, .int .i64 step, .int .i64 D] 87 wr ∧ OwnInts wr (w.heap.size + 2) u4 out)
      case atStart => exact ⟨m0, hmod, rfl, HP.out, rfl, HB1, ho1⟩
      case round =>
        clear HB1 ho1
        obtain ⟨m, hm, rfl, hok, hpr, HB, ho⟩ := hrel
        obtain ⟨p1, c1, rfl, hi1⟩ := ho.slice
        have hs0 := HB.cell1 0 (v := .int .i64 r) rfl
        have hs1 := HB.cell1 1 (v := .int .i64 cc) rfl
        have hs2 := HB.cell1 2 (v := .slice p n c) rfl
        cases gk with
        | zero => exact hok.elim
        | succ g =>
          have HNX := hid (nxt_mod hm)
          have hmb : (m : Int) + 1 ≤ 9 := by omega
          have hmc : 0 ≤ (m : Int) := by omega
          have hmd : 0 ≤ (m : Int) + 1 := by omega
          have hol9 : out.length ≤ 9 := by have := HOL.out; omega
          cases hh : hasB out m
          · have hq : Hid (m = probeG out n n m0) := by show _ = _; rw [← hpr, probeG, hh]; simp
            clear hok hpr
            go_wp2_with fail
            refine (contains_any _ _ _ out m _ hi1 (by omega)).mono ?_
            rw [hh]
            rintro e w' ⟨rfl, rfl⟩
            subst hQ
            have hb := HB.size
            go_wp2_with (at_builtin; refine append_int (by rfl) _ _ (by rfl) (w.heap.size + 2) _ out _ ho (by rfl) (by rfl) (by omega) hb ?_; intro v' w' ho' hb')
            go_roundw
            case rel => exact ⟨k + 1, x', _, by omega, by go_num, rfl, by omega, by omega, ho', by simp [HOL.out], by rw [hq.out]; exact HDG.out, HB.step hb'⟩
            case measure => simp [intOf]; omega
          · have hok' : ProbeOk out n g (nxt n m) := by
              rcases hok with h | h
              · rw [hh] at h; cases h
              · exact h
            have hpr' : probeG out n g (nxt n m) = probeG out n n m0 := by rw [← hpr, probeG, hh]; simp
            have HO := hid hok'
            have HPR := hid hpr'
            have hnm : nxt n m < n := by unfold nxt; split <;> omega
            have HI1 := hid hi1
            clear hok hpr hok' hpr' hi1
            go_wp2_with fail
            refine (contains_any _ _ _ out m _ HI1.out (by omega)).mono ?_
            rw [hh]
            rintro e w' ⟨rfl, rfl⟩
            go_wp2_with fail
            refine (places_any _ _ _ _ _ _).mono ?_
            rintro e w2 ⟨rfl, hb2⟩
            go_wp2_with fail
            rw [HNX.out]
            go_roundg g
            case measure => omega
            case rel => exact ⟨nxt n m, hnm, rfl, HO.out, HPR.out, HB.step (hb2.mono HB.size), ho.below hb2⟩
    · have hke : D - k = 0 := by omega
      have HFin : Hid (out = drawL n seed step D) := by show _ = _; rw [← HR.out, hke, drawG]
      clear hke
      go_wp2
      go_ret
      exact ⟨_, rfl, HFin.out ▸ ho.mono (by omega), HB.below⟩
end Go.Proofs.Ytlicijnaacdceaa

/- Draw of the program. -/
namespace Go.Proofs.Ytlicijnaacdceaa
open Go.RowKit

def drawE (r cc : Int) (l : List Int) (seed step draws : Int) : Int := if isFieldB r cc l = true then (if isLotB l.length seed step draws = true then 0 else 2) else 1
def drawV (r cc : Int) (l : List Int) (seed step draws : Int) : List Int := if drawE r cc l seed step draws = 0 then drawL l.length seed step draws else []

/-- A slice of numbers and an error are returned. -/
def RetInts2 (w : World) (l : List Int) (E : Int) : Ending → World → Prop := fun e w' => ∃ v, e = .returned (.tuple #[v, .int .i64 E]) ∧ OwnInts w' w.heap.size v l ∧ Below w.heap.size w w'

theorem retInts2_nil {w w' : World} {l : List Int} {E E' : Int} (hl : l = []) (hE : E = E') (hb : Below w.heap.size w w') : RetInts2 w l E' (.returned (.tuple #[.slice none 0 0, .int .i64 E])) w' := ⟨_, by rw [hE], hl ▸ ownInts_nil _ _, hb⟩

theorem Boxed2.drew {w : World} {cs ds : Array Value} {T U : TypeId} {W : World} (h : Boxed2 w cs T ds U W) : Boxed2 w cs T ds U W.drew := Below.drew h
theorem Boxed2.drewN {w : World} {cs ds : Array Value} {T U : TypeId} {W : World} (h : Boxed2 w cs T ds U W) (k : Nat) : Boxed2 w cs T ds U (W.drewN k) := below_drewN h k
theorem Boxed2.alloc {w : World} {cs ds : Array Value} {T U : TypeId} {W : World} (h : Boxed2 w cs T ds U W) (b : Obj) : Boxed2 w cs T ds U (W.alloc b) := Below.alloc h h.size b

/-- Of a field and a lot in their boxes: what a region reads of them. -/
theorem lot_of {w W : World} {r cc : Int} {p : Option Addr} {n c : Nat} {x y z : Int} {T U : TypeId} (h : Boxed2 w #[.int .i64 r, .int .i64 cc, .slice p n c] T #[.int .i64 x, .int .i64 y, .int .i64 z] U W) :
    W.cell? ⟨w.heap.size, 0, none⟩ = some (.int .i64 r) ∧ W.cell? ⟨w.heap.size, 1, none⟩ = some (.int .i64 cc) ∧ W.cell? ⟨w.heap.size, 2, none⟩ = some (.slice p n c) ∧
    W.cell? ⟨w.heap.size + 1, 0, none⟩ = some (.int .i64 x) ∧ W.cell? ⟨w.heap.size + 1, 1, none⟩ = some (.int .i64 y) ∧ W.cell? ⟨w.heap.size + 1, 2, none⟩ = some (.int .i64 z) ∧ Boxed2 w #[.int .i64 r, .int .i64 cc, .slice p n c] T #[.int .i64 x, .int .i64 y, .int .i64 z] U W :=
  ⟨h.cell1 0 rfl, h.cell1 1 rfl, h.cell1 2 rfl, h.cell2 0 rfl, h.cell2 1 rfl, h.cell2 2 rfl, h⟩

set_option maxHeartbeats 4000000 in
theorem Draw_any (r cc : Int) (p : Option Addr) (n c : Nat) (l : List Int) (seed step draws : Int) (w : World) (hl : IntsAt w p n l) (hn : n ≤ 1000000) :
    Calls Try.prog 55 #[.agg #[.int .i64 r, .int .i64 cc, .slice p n c], .agg #[.int .i64 seed, .int .i64 step, .int .i64 draws]] w (RetInts2 w (drawV r cc l seed step draws) (drawE r cc l seed step draws)) := by
  have HE := hid (show drawE r cc l seed step draws = if isFieldB r cc l = true then (if (inB seed 0 9999 && (inB step 0 9999 && (inB draws 0 6 && decide (draws ≤ n)))) = true then 0 else 2) else 1 by rw [drawE, ← hl.1]; rfl)
  have HV := hid (show drawV r cc l seed step draws = if drawE r cc l seed step draws = 0 then drawL n seed step draws else [] by rw [drawV, ← hl.1])
  have HI := hid (fun W (hW : Below w.heap.size w W) => checkField_any r cc p n c l W (hl.below hW) (by omega))
  have HL := hid hl.1
  clear hl
  cases h1 : isFieldB r cc l
  · go_enter Try.func55, Try.ntmps55
    go_wp2_with fail
    refine (HI.out _ ?_).mono ?_
    · exact ((Below.refl _ _).alloc (Nat.le_refl _) _).alloc (by simp) _
    rw [h1, show errF false = (1 : Int) from rfl]
    rintro e w1 ⟨rfl, hb⟩
    have HB : Boxed2 w #[.int .i64 r, .int .i64 cc, .slice p n c] 33 #[.int .i64 seed, .int .i64 step, .int .i64 draws] 87 w1 := hb.mono (by simp)
    go_wp2
    go_ret2
    have e1 : drawE r cc l seed step draws = 1 := by rw [HE.out, h1]; rfl
    exact retInts2_nil (by rw [HV.out, e1]; rfl) e1.symm HB.below
  · have hq := field_facts h1
    have hn9 : n ≤ 9 := by have := HL.out; omega
    have hn1 : 1 ≤ n := by have := HL.out; omega
    have hnn : (1 : Int) ≤ n ∧ (n : Int) ≤ 9 := by omega
    clear hq
    go_enter Try.func55, Try.ntmps55
    go_wp2_with fail
    refine (HI.out _ ?_).mono ?_
    · exact ((Below.refl _ _).alloc (Nat.le_refl _) _).alloc (by simp) _
    rw [h1, show errF true = (0 : Int) from rfl]
    rintro e w1 ⟨rfl, hb⟩
    have HB : Boxed2 w #[.int .i64 r, .int .i64 cc, .slice p n c] 33 #[.int .i64 seed, .int .i64 step, .int .i64 draws] 87 w1 := hb.mono (by simp)
    have hs0 := HB.cell1 0 (v := .int .i64 r) rfl
    have hs1 := HB.cell1 1 (v := .int .i64 cc) rfl
    have hs2 := HB.cell1 2 (v := .slice p n c) rfl
    have ht0 := HB.cell2 0 (v := .int .i64 seed) rfl
    have ht1 := HB.cell2 1 (v := .int .i64 step) rfl
    have ht2 := HB.cell2 2 (v := .int .i64 draws) rfl
    clear hb
    cases h2 : inB seed 0 9999
    · go_wp2_with fail
      go_quiet ((go_at_call 90; exact Calls.quiet_of_same (within_any _ _ _ _)))
      go_wp2
      go_ret2
      have e1 : drawE r cc l seed step draws = 2 := by rw [HE.out, h1, h2]; rfl
      exact retInts2_nil (by rw [HV.out, e1]; rfl) e1.symm (HB.drewN _).below
    · cases h3 : inB step 0 9999
      · go_wp2_with fail
        go_quiet ((go_at_call 90; exact Calls.quiet_of_same (within_any _ _ _ _)))
        go_wp2
        go_ret2
        have e1 : drawE r cc l seed step draws = 2 := by rw [HE.out, h1, h2, h3]; rfl
        exact retInts2_nil (by rw [HV.out, e1]; rfl) e1.symm (HB.drewN _).below
      · have HM : Hid (inB draws 0 (minI 6 n) = (inB draws 0 6 && decide (draws ≤ n))) := by
          show _ = _
          rw [Bool.eq_iff_iff]
          unfold minI inB
          split
          · simp only [Bool.and_eq_true, decide_eq_true_eq]; omega
          · simp only [Bool.and_eq_true, decide_eq_true_eq]; omega
        go_wp2_with fail
        clear hs0 hs1 hs2 ht0 ht1 ht2
        go_region_held3 (fun W => W.cell? ⟨w.heap.size, 0, none⟩ = some (.int .i64 r) ∧ W.cell? ⟨w.heap.size, 1, none⟩ = some (.int .i64 cc) ∧ W.cell? ⟨w.heap.size, 2, none⟩ = some (.slice p n c) ∧ W.cell? ⟨w.heap.size + 1, 0, none⟩ = some (.int .i64 seed) ∧ W.cell? ⟨w.heap.size + 1, 1, none⟩ = some (.int .i64 step) ∧ W.cell? ⟨w.heap.size + 1, 2, none⟩ = some (.int .i64 draws) ∧ Boxed2 w #[.int .i64 r, .int .i64 cc, .slice p n c] 33 #[.int .i64 seed, .int .i64 step, .int .i64 draws] 87 W)
          (first | exact lot_of (by assumption) | exact lot_of (Boxed2.drew (by assumption)) | exact lot_of (Boxed2.alloc (by assumption) _) | exact lot_of (Boxed2.alloc (Boxed2.drew (by assumption)) _) | exact lot_of (Boxed2.drew (Boxed2.alloc (by assumption) _)))
          (first
          | (go_at_call 90; go_split_ands; refine (within_any _ _ _ _).mono ?_; rintro e w' ⟨rfl, rfl⟩)
          | (go_at_call 77; go_split_ands; refine (places_any _ _ _ _ _ _).mono ?_; rintro e w2 ⟨rfl, hb2⟩; have HB2 := Boxed2.step (by assumption) (Below.mono hb2 (Boxed2.size (by assumption))))
          | (go_at_call 89; go_split_ands; refine (min2_any _ _ _ _ (cell_box _ _ _ 0 _ rfl) (cell_box _ _ _ 1 _ rfl)).mono ?_; rintro e w' ⟨rfl, rfl⟩))
        go_split_ands
        rename_i HB3
        have HB4 := hid HB3
        rw [HM.out]
        cases h4 : (inB draws 0 6 && decide (draws ≤ n))
        · go_wp2
          go_ret2
          have e1 : drawE r cc l seed step draws = 2 := by rw [HE.out, h1, h2, h3, h4]; rfl
          exact retInts2_nil (by rw [HV.out, e1]; rfl) e1.symm HB4.out.below
        · have HB3 := HB4.out
          have hs0 := HB3.cell1 0 (v := .int .i64 r) rfl
          have hs1 := HB3.cell1 1 (v := .int .i64 cc) rfl
          have hs2 := HB3.cell1 2 (v := .slice p n c) rfl
          have ht0 := HB3.cell2 0 (v := .int .i64 seed) rfl
          have ht1 := HB3.cell2 1 (v := .int .i64 step) rfl
          have ht2 := HB3.cell2 2 (v := .int .i64 draws) rfl
          have hb2 : 0 ≤ seed ∧ seed ≤ 9999 := by simpa [inB] using h2
          have hb3 : 0 ≤ step ∧ step ≤ 9999 := by simpa [inB] using h3
          have hb4 : (0 ≤ draws ∧ draws ≤ 6) ∧ draws ≤ n := by simpa [inB] using h4
          have e1 : drawE r cc l seed step draws = 0 := by rw [HE.out, h1, h2, h3, h4]; rfl
          have HD := hid (fun W => drawn_any r cc p n c seed step draws W (by omega) hn1 hb2.1 hb2.2 hb3.1 hb3.2 hb4.1.1 hb4.2)
          have HE1 := hid e1
          clear hb2 hb3 hb4 e1
          go_wp2_with fail
          refine (HD.out _).mono ?_
          rintro e w5 ⟨v, rfl, ho, hb⟩
          go_wp2
          go_ret2
          have hb6 := HB4.out.below
          exact ⟨v, by rw [HE1.out]; rfl, by rw [HV.out, HE1.out]; exact ho.mono hb6.size, hb6.trans (hb.mono hb6.size)⟩
end Go.Proofs.Ytlicijnaacdceaa

/- Smooth of the program. -/
namespace Go.Proofs.Ytlicijnaacdceaa
open Go.RowKit

/-- Block b holds nine numbers, those of h and then noughts. -/
def HitsAt (W : World) (b : Nat) (h : List Int) : Prop := ∀ i, i < 9 → W.cell? ⟨b, i, none⟩ = some (.int .i64 (h[i]?.getD 0))

set_option maxHeartbeats 2000000 in
theorem near_any (bh bp bv bw k o : Nat) (h : List Int) (sm : Int) (w : World) (hh : HitsAt w bh h) (hp : w.cell? ⟨bp, 0, none⟩ = some (.int .i64 k)) (hv : w.cell? ⟨bv, 0, none⟩ = some (.pointer (some ⟨bw, 0, none⟩))) (hs : w.cell? ⟨bw, 3, none⟩ = some (.int .i64 sm))
    (hk : k < 9) (ho : o < 9) (hb : ∀ x ∈ h, 0 ≤ x ∧ x ≤ 9) (hs0 : 0 ≤ sm) (hs9 : sm ≤ 9) :
    Calls Try.prog 108 #[.int .i64 o, .pointer (some ⟨bh, 0, none⟩), .pointer (some ⟨bp, 0, none⟩), .pointer (some ⟨bv, 0, none⟩)] w fun e w' => e = .returned (.bool (inB (h[k]?.getD 0 - h[o]?.getD 0) (-sm) sm)) ∧ ∃ n, w' = w.drewN n := by
  have h1 := hh k hk
  have h2 := hh o ho
  have hb1 : ∀ i : Nat, 0 ≤ h[i]?.getD 0 ∧ h[i]?.getD 0 ≤ 9 := fun i => by
    cases hi : h[i]? with
    | none => simp
    | some x => have := hb x (List.mem_of_getElem? hi); simpa using this
  have hbk := hb1 k
  have hbo := hb1 o
  clear hh hb hb1
  generalize h[k]?.getD 0 = x at *
  generalize h[o]?.getD 0 = y at *
  have e1 : IntKind.i64.wrap (x - y) = x - y := IntWalk.i64_in (x - y) (by omega)
  have e2 : IntKind.i64.wrap (-sm) = -sm := IntWalk.i64_in (-sm) (by omega)
  go_enter Try.func108, Try.ntmps108
  go_wp2_with fail
  go_quiet ((go_at_call 90; exact Calls.quiet_of_same (within_any _ _ _ _)))
  go_wp2
  go_ret
  exact ⟨rfl, _, rfl⟩

def smoothB (cc sm : Int) (h : List Int) (k : Nat) : Bool :=
  ((k : Int) % cc == 0 || inB (h[k]?.getD 0 - h[k - 1]?.getD 0) (-sm) sm) && (decide ((k : Int) < cc) || inB (h[k]?.getD 0 - h[k - cc.toNat]?.getD 0) (-sm) sm)

def hitsV (h : List Int) : Value := .agg #[.int .i64 (h[0]?.getD 0), .int .i64 (h[1]?.getD 0), .int .i64 (h[2]?.getD 0), .int .i64 (h[3]?.getD 0), .int .i64 (h[4]?.getD 0), .int .i64 (h[5]?.getD 0), .int .i64 (h[6]?.getD 0), .int .i64 (h[7]?.getD 0), .int .i64 (h[8]?.getD 0)]

theorem hitsAt_box (w : World) (h : List Int) (T : TypeId) : HitsAt (w.alloc (.cells #[.int .i64 (h[0]?.getD 0), .int .i64 (h[1]?.getD 0), .int .i64 (h[2]?.getD 0), .int .i64 (h[3]?.getD 0), .int .i64 (h[4]?.getD 0), .int .i64 (h[5]?.getD 0), .int .i64 (h[6]?.getD 0), .int .i64 (h[7]?.getD 0), .int .i64 (h[8]?.getD 0)] T)) w.heap.size h := fun i hi =>
  cell_box _ _ _ i _ (by
    match i, hi with
    | 0, _ | 1, _ | 2, _ | 3, _ | 4, _ | 5, _ | 6, _ | 7, _ | 8, _ => rfl)
theorem HitsAt.drewN {w : World} {b : Nat} {h : List Int} (hh : HitsAt w b h) (n : Nat) : HitsAt (w.drewN n) b h := fun i hi => by simpa using hh i hi
theorem HitsAt.lt {w : World} {b : Nat} {h : List Int} (hh : HitsAt w b h) : b < w.heap.size := World.block_lt_of_cell? w _ (hh 0 (by omega))
theorem HitsAt.alloc {w : World} {b : Nat} {h : List Int} (hh : HitsAt w b h) (o : Obj) : HitsAt (w.alloc o) b h := fun i hi => (World.cell?_of_block (Below.heap_alloc w o b hh.lt)).trans (hh i hi)

/-- What smooth has laid. -/
def SmoothW (w : World) (bw k : Nat) (h : List Int) : World :=
  ((w.alloc (.cells #[.pointer (some ⟨bw, 0, none⟩)] 112)).alloc (.cells #[.int .i64 (h[0]?.getD 0), .int .i64 (h[1]?.getD 0), .int .i64 (h[2]?.getD 0), .int .i64 (h[3]?.getD 0), .int .i64 (h[4]?.getD 0), .int .i64 (h[5]?.getD 0), .int .i64 (h[6]?.getD 0), .int .i64 (h[7]?.getD 0), .int .i64 (h[8]?.getD 0)] 116)).alloc (.cells #[.int .i64 k] 3)

set_option maxHeartbeats 4000000 in
theorem smooth_any (bw k : Nat) (h : List Int) (cc sm : Int) (w : World) (hc : w.cell? ⟨bw, 1, none⟩ = some (.int .i64 cc)) (hs : w.cell? ⟨bw, 3, none⟩ = some (.int .i64 sm))
    (hk : k < 9) (hb : ∀ x ∈ h, 0 ≤ x ∧ x ≤ 9) (hc1 : 1 ≤ cc) (hc4 : cc ≤ 4) (hs0 : 0 ≤ sm) (hs9 : sm ≤ 9) :
    Calls Try.prog 98 #[.pointer (some ⟨bw, 0, none⟩), hitsV h, .int .i64 k] w fun e w' => e = .returned (.bool (smoothB cc sm h k)) ∧ Below w.heap.size w w' := by
  obtain ⟨C, rfl⟩ : ∃ C : Nat, cc = C := ⟨cc.toNat, by omega⟩
  have hlt := World.block_lt_of_cell? w _ hc
  have HN : Hid (∀ (a o : Nat), o < 9 → Calls Try.prog 108 #[.int .i64 o, .pointer (some ⟨w.heap.size + 1, 0, none⟩), .pointer (some ⟨w.heap.size + 2, 0, none⟩), .pointer (some ⟨w.heap.size, 0, none⟩)] ((SmoothW w bw k h).drewN a) fun e w' => e = .returned (.bool (inB (h[k]?.getD 0 - h[o]?.getD 0) (-sm) sm)) ∧ ∃ n, w' = (SmoothW w bw k h).drewN n) := by
    intro a o ho
    refine Calls.mono (near_any (w.heap.size + 1) (w.heap.size + 2) w.heap.size bw k o h sm _ (HitsAt.drewN ?_ a) ?_ ?_ ?_ hk ho hb hs0 hs9) (fun e w' h => ⟨h.1, by obtain ⟨n, hn⟩ := h.2; exact ⟨_, hn.trans (World.drewN_drewN _ _ _)⟩⟩)
    · have := (hitsAt_box (w.alloc (.cells #[.pointer (some ⟨bw, 0, none⟩)] 112)) h 116).alloc (.cells #[.int .i64 k] 3)
      simpa [SmoothW] using this
    · have := cell_box ((w.alloc (.cells #[.pointer (some ⟨bw, 0, none⟩)] 112)).alloc (.cells #[.int .i64 (h[0]?.getD 0), .int .i64 (h[1]?.getD 0), .int .i64 (h[2]?.getD 0), .int .i64 (h[3]?.getD 0), .int .i64 (h[4]?.getD 0), .int .i64 (h[5]?.getD 0), .int .i64 (h[6]?.getD 0), .int .i64 (h[7]?.getD 0), .int .i64 (h[8]?.getD 0)] 116)) #[.int .i64 k] 3 0 _ rfl
      simpa [SmoothW] using this
    · have := (((Below.refl _ _).alloc (by simp) _).alloc (by simp) _ : Below (w.heap.size + 1) (w.alloc (.cells #[.pointer (some ⟨bw, 0, none⟩)] 112)) (SmoothW w bw k h)).cell (p := ⟨w.heap.size, 0, none⟩) (by simp)
      rw [World.cell?_drewN]
      exact this.trans (cell_box w _ _ 0 _ rfl)
    · have := ((((Below.refl _ _).alloc (Nat.le_refl _) _).alloc (by simp) _).alloc (by simp; omega) _ : Below w.heap.size w (SmoothW w bw k h)).cell (p := ⟨bw, 3, none⟩) hlt
      rw [World.cell?_drewN]
      exact this.trans hs
  have HB : Hid (∀ a, Below w.heap.size w ((SmoothW w bw k h).drewN a)) := fun a => below_drewN ((((Below.refl _ _).alloc (Nat.le_refl _) _).alloc (by simp) _).alloc (by simp; omega) _) a
  have HF := hid (show smoothB C sm h k = (((k : Int) % C == 0 || inB (h[k]?.getD 0 - h[k - 1]?.getD 0) (-sm) sm) && (decide ((k : Int) < C) || inB (h[k]?.getD 0 - h[k - C]?.getD 0) (-sm) sm)) from rfl)
  have hmf : ∀ (fn : Fn) (first cap : Array Value) (w : World), (Instr.makeFunc fn first cap).run Try.prog w = .ok (.func fn first cap) w := fun _ _ _ _ => rfl
  have HPL : Hid (∀ a, ((SmoothW w bw k h).drewN a).cell? ⟨w.heap.size + 1 + 1, 0, none⟩ = some (.int .i64 k)) := by
    intro a
    have := cell_box ((w.alloc (.cells #[.pointer (some ⟨bw, 0, none⟩)] 112)).alloc (.cells #[.int .i64 (h[0]?.getD 0), .int .i64 (h[1]?.getD 0), .int .i64 (h[2]?.getD 0), .int .i64 (h[3]?.getD 0), .int .i64 (h[4]?.getD 0), .int .i64 (h[5]?.getD 0), .int .i64 (h[6]?.getD 0), .int .i64 (h[7]?.getD 0), .int .i64 (h[8]?.getD 0)] 116)) #[.int .i64 k] 3 0 _ rfl
    simpa [SmoothW] using this
  have hc2 : (SmoothW w bw k h).cell? ⟨bw, 1, none⟩ = some (.int .i64 C) := ((HB.out 0).cell (p := ⟨bw, 1, none⟩) hlt).trans hc
  have HW : Hid (SmoothW w bw k h = _) := hid (SmoothW.eq_1 w bw k h)
  simp only [SmoothW] at hc2
  clear hb hc hs
  have hc0 : ¬ (C : Int) = 0 := by omega
  have hm0 : 0 ≤ (k : Int) % C := Int.emod_nonneg _ hc0
  have hm1 : (k : Int) % C < C := Int.emod_lt_of_pos _ (by omega)
  cases hz : ((k : Int) % C == 0)
  · unfold hitsV
    go_enter Try.func98, Try.ntmps98
    go_wp2_with fail
    have hk1 : 1 ≤ k := by
      refine Classical.byContradiction fun hn => ?_
      rw [show k = 0 by omega] at hz
      simp at hz
    rw [show (k : Int) - 1 = ((k - 1 : Nat) : Int) by omega]
    refine (HN.out 0 (k - 1) (by omega)).mono ?_
    rintro e w1 ⟨rfl, n1, rfl⟩
    have HP := HPL.out n1
    cases hy : inB (h[k]?.getD 0 - h[k - 1]?.getD 0) (-sm) sm
    · go_wp2_with fail
      go_ret
      exact ⟨ret_bool (by rw [HF.out, hz, hy]; rfl), HB.out _⟩
    · by_cases hkc : k < C
      · go_wp2_with fail
        go_ret
        exact ⟨ret_bool (by rw [HF.out, hz, hy]; simp [hkc]), HB.out _⟩
      · have hkc2 : ¬ (k : Int) < C := by omega
        go_wp2_with fail
        rw [show (k : Int) - C = ((k - C : Nat) : Int) by omega]
        refine (HN.out n1 (k - C) (by omega)).mono ?_
        rintro e w2 ⟨rfl, n2, rfl⟩
        go_wp2_with fail
        go_ret
        exact ⟨ret_bool (by rw [HF.out, hz, hy]; simp; intro hh; omega), HB.out _⟩
  · unfold hitsV
    go_enter Try.func98, Try.ntmps98
    by_cases hkc : k < C
    · go_wp2_with fail
      go_ret
      exact ⟨ret_bool (by rw [HF.out, hz]; simp [hkc]), HB.out 0⟩
    · have hkc2 : ¬ (k : Int) < C := by omega
      go_wp2_with fail
      rw [show (k : Int) - C = ((k - C : Nat) : Int) by omega]
      refine (HN.out 0 (k - C) (by omega)).mono ?_
      rintro e w2 ⟨rfl, n2, rfl⟩
      go_wp2_with fail
      go_ret
      exact ⟨ret_bool (by rw [HF.out, hz]; simp; intro hh; omega), HB.out _⟩
end Go.Proofs.Ytlicijnaacdceaa
