/- Whether a programme is valid: Fault of the reference, CheckProgramme of the program. No condition. -/
import Derived.Test.YtaioobhblfnlaaaB2
namespace Go.Proofs.Ytaioobhblfnlaaa
open Go.RowKit


set_option maxRecDepth 20000 in
set_option maxHeartbeats 2000000 in
theorem valid_any (t : Tre) (w : World) : Calls Try.prog 73 #[.agg #[.int .i64 t.kind, .int .i64 t.part, .int .i64 t.above, .int .i64 t.most, .int .i64 t.times, .int .i64 t.price, .int .i64 t.off]] w fun e w' => e = .returned (.bool (treV t)) ∧ Below w.heap.size w w' := by
  cases h1 : inB t.price 0 1000
  · skip
    have HF : Hid (treV t = false) := hid (by simp [treV, quotaB, excessB, h1])
    go_enter Try.func73, Try.ntmps73
    go_wp2_with (go_at_call 69; refine (within_any _ _ _ _).mono ?_; rintro e w' ⟨rfl, rfl⟩)
    go_ret
    exact ⟨ret_bool HF.out.symm, (Below.refl _ _).alloc (Nat.le_refl _) _⟩
  · skip
    cases h2 : inB t.times 0 3
    · skip
      have HF : Hid (treV t = false) := hid (by simp [treV, quotaB, excessB, h1, h2])
      go_enter Try.func73, Try.ntmps73
      go_wp2_with (go_at_call 69; refine (within_any _ _ _ _).mono ?_; rintro e w' ⟨rfl, rfl⟩)
      go_ret
      exact ⟨ret_bool HF.out.symm, (Below.refl _ _).alloc (Nat.le_refl _) _⟩
    · skip
      cases hk : (t.kind == 0)
      · have HK := hid (show ¬ t.kind = 0 by simpa using hk)
        cases h3 : (t.kind == 1)
        · skip
          have HF : Hid (treV t = false) := hid (by simp [treV, excessB, h1, h2, HK.out, h3])
          go_enter Try.func73, Try.ntmps73
          go_wp2_with (go_at_call 69; refine (within_any _ _ _ _).mono ?_; rintro e w' ⟨rfl, rfl⟩)
          go_ret
          exact ⟨ret_bool HF.out.symm, (Below.refl _ _).alloc (Nat.le_refl _) _⟩
        · skip
          cases h4 : (t.part == 0)
          · skip
            have HF : Hid (treV t = false) := hid (by simp [treV, excessB, h1, h2, HK.out, h3, h4])
            go_enter Try.func73, Try.ntmps73
            go_wp2_with (go_at_call 69; refine (within_any _ _ _ _).mono ?_; rintro e w' ⟨rfl, rfl⟩)
            go_ret
            exact ⟨ret_bool HF.out.symm, (Below.refl _ _).alloc (Nat.le_refl _) _⟩
          · skip
            cases h5 : inB t.above 0 1000
            · skip
              have HF : Hid (treV t = false) := hid (by simp [treV, excessB, h1, h2, HK.out, h3, h4, h5])
              go_enter Try.func73, Try.ntmps73
              go_wp2_with (go_at_call 69; refine (within_any _ _ _ _).mono ?_; rintro e w' ⟨rfl, rfl⟩)
              go_ret
              exact ⟨ret_bool HF.out.symm, (Below.refl _ _).alloc (Nat.le_refl _) _⟩
            · skip
              cases h6 : inB t.most 1 1000
              · skip
                have HF : Hid (treV t = false) := hid (by simp [treV, excessB, h1, h2, HK.out, h3, h4, h5, h6])
                go_enter Try.func73, Try.ntmps73
                go_wp2_with (go_at_call 69; refine (within_any _ _ _ _).mono ?_; rintro e w' ⟨rfl, rfl⟩)
                go_ret
                exact ⟨ret_bool HF.out.symm, (Below.refl _ _).alloc (Nat.le_refl _) _⟩
              · skip
                have HF : Hid (treV t = true) := hid (by simp [treV, excessB, h1, h2, HK.out, h3, h4, h5, h6])
                go_enter Try.func73, Try.ntmps73
                go_wp2_with (go_at_call 69; refine (within_any _ _ _ _).mono ?_; rintro e w' ⟨rfl, rfl⟩)
                go_ret
                exact ⟨ret_bool HF.out.symm, (Below.refl _ _).alloc (Nat.le_refl _) _⟩
      · have HK := hid (show t.kind = 0 by simpa using hk)
        cases h3 : inB t.part 1 100
        · skip
          have HF : Hid (treV t = false) := hid (by simp [treV, quotaB, h1, h2, HK.out, h3])
          go_enter Try.func73, Try.ntmps73
          go_wp2_with (go_at_call 69; refine (within_any _ _ _ _).mono ?_; rintro e w' ⟨rfl, rfl⟩)
          go_ret
          exact ⟨ret_bool HF.out.symm, (Below.refl _ _).alloc (Nat.le_refl _) _⟩
        · skip
          cases h4 : (t.above == 0)
          · skip
            have HF : Hid (treV t = false) := hid (by simp [treV, quotaB, h1, h2, HK.out, h3, h4])
            go_enter Try.func73, Try.ntmps73
            go_wp2_with (go_at_call 69; refine (within_any _ _ _ _).mono ?_; rintro e w' ⟨rfl, rfl⟩)
            go_ret
            exact ⟨ret_bool HF.out.symm, (Below.refl _ _).alloc (Nat.le_refl _) _⟩
          · skip
            cases h5 : (t.most == 0)
            · skip
              have HF : Hid (treV t = false) := hid (by simp [treV, quotaB, h1, h2, HK.out, h3, h4, h5])
              go_enter Try.func73, Try.ntmps73
              go_wp2_with (go_at_call 69; refine (within_any _ _ _ _).mono ?_; rintro e w' ⟨rfl, rfl⟩)
              go_ret
              exact ⟨ret_bool HF.out.symm, (Below.refl _ _).alloc (Nat.le_refl _) _⟩
            · skip
              cases h6 : (t.times == 0)
              · skip
                have HF : Hid (treV t = false) := hid (by simp [treV, quotaB, h1, h2, HK.out, h3, h4, h5, h6])
                go_enter Try.func73, Try.ntmps73
                go_wp2_with (go_at_call 69; refine (within_any _ _ _ _).mono ?_; rintro e w' ⟨rfl, rfl⟩)
                go_ret
                exact ⟨ret_bool HF.out.symm, (Below.refl _ _).alloc (Nat.le_refl _) _⟩
              · skip
                have HF : Hid (treV t = true) := hid (by simp [treV, quotaB, h1, h2, HK.out, h3, h4, h5, h6])
                go_enter Try.func73, Try.ntmps73
                go_wp2_with (go_at_call 69; refine (within_any _ _ _ _).mono ?_; rintro e w' ⟨rfl, rfl⟩)
                go_ret
                exact ⟨ret_bool HF.out.symm, (Below.refl _ _).alloc (Nat.le_refl _) _⟩

set_option maxRecDepth 20000 in
set_option maxHeartbeats 4000000 in
theorem isTreaty_any (t : Tre) (i : Nat) (w : World) (hi : i ≤ 1000000) : Calls Try.prog 106 #[.agg #[.int .i64 t.kind, .int .i64 t.part, .int .i64 t.above, .int .i64 t.most, .int .i64 t.times, .int .i64 t.price, .int .i64 t.off], .int .i64 i] w fun e w' => e = .returned (.bool (treI i t)) ∧ Below w.heap.size w w' := by
  cases h1 : inB t.price 0 1000
  · skip
    have HF : Hid (treI i t = false) := hid (by simp [treI, treV, offB, quotaB, excessB, h1])
    go_enter Try.func106, Try.ntmps106
    go_wp2_with (go_at_call 59; refine (in_any _ _ _ _).mono ?_; rintro e w' ⟨rfl, rfl⟩)
    go_ret
    exact ⟨ret_bool HF.out.symm, (Below.refl _ _).alloc (Nat.le_refl _) _⟩
  · skip
    cases h0 : inB t.off (-1) ((i : Int) - 1)
    · skip
      have HF : Hid (treI i t = false) := hid (by simp [treI, treV, offB, quotaB, excessB, h1, h0])
      go_enter Try.func106, Try.ntmps106
      go_wp2_with (go_at_call 59; refine (in_any _ _ _ _).mono ?_; rintro e w' ⟨rfl, rfl⟩)
      go_ret
      exact ⟨ret_bool HF.out.symm, (Below.refl _ _).alloc (Nat.le_refl _) _⟩
    · skip
      cases h2 : inB t.times 0 3
      · skip
        have HF : Hid (treI i t = false) := hid (by simp [treI, treV, offB, quotaB, excessB, h1, h0, h2])
        go_enter Try.func106, Try.ntmps106
        go_wp2_with (go_at_call 59; refine (in_any _ _ _ _).mono ?_; rintro e w' ⟨rfl, rfl⟩)
        go_ret
        exact ⟨ret_bool HF.out.symm, (Below.refl _ _).alloc (Nat.le_refl _) _⟩
      · skip
        cases hk : (t.kind == 0)
        · have HK := hid (show ¬ t.kind = 0 by simpa using hk)
          cases h3 : (t.kind == 1)
          · skip
            have HF : Hid (treI i t = false) := hid (by simp [treI, treV, offB, excessB, h1, h0, h2, HK.out, h3])
            go_enter Try.func106, Try.ntmps106
            go_wp2_with (go_at_call 59; refine (in_any _ _ _ _).mono ?_; rintro e w' ⟨rfl, rfl⟩)
            go_ret
            exact ⟨ret_bool HF.out.symm, (Below.refl _ _).alloc (Nat.le_refl _) _⟩
          · skip
            cases h4 : (t.part == 0)
            · skip
              have HF : Hid (treI i t = false) := hid (by simp [treI, treV, offB, excessB, h1, h0, h2, HK.out, h3, h4])
              go_enter Try.func106, Try.ntmps106
              go_wp2_with (go_at_call 59; refine (in_any _ _ _ _).mono ?_; rintro e w' ⟨rfl, rfl⟩)
              go_ret
              exact ⟨ret_bool HF.out.symm, (Below.refl _ _).alloc (Nat.le_refl _) _⟩
            · skip
              cases h5 : inB t.above 0 1000
              · skip
                have HF : Hid (treI i t = false) := hid (by simp [treI, treV, offB, excessB, h1, h0, h2, HK.out, h3, h4, h5])
                go_enter Try.func106, Try.ntmps106
                go_wp2_with (go_at_call 59; refine (in_any _ _ _ _).mono ?_; rintro e w' ⟨rfl, rfl⟩)
                go_ret
                exact ⟨ret_bool HF.out.symm, (Below.refl _ _).alloc (Nat.le_refl _) _⟩
              · skip
                cases h6 : inB t.most 1 1000
                · skip
                  have HF : Hid (treI i t = false) := hid (by simp [treI, treV, offB, excessB, h1, h0, h2, HK.out, h3, h4, h5, h6])
                  go_enter Try.func106, Try.ntmps106
                  go_wp2_with (go_at_call 59; refine (in_any _ _ _ _).mono ?_; rintro e w' ⟨rfl, rfl⟩)
                  go_ret
                  exact ⟨ret_bool HF.out.symm, (Below.refl _ _).alloc (Nat.le_refl _) _⟩
                · skip
                  have HF : Hid (treI i t = true) := hid (by simp [treI, treV, offB, excessB, h1, h0, h2, HK.out, h3, h4, h5, h6])
                  go_enter Try.func106, Try.ntmps106
                  go_wp2_with (go_at_call 59; refine (in_any _ _ _ _).mono ?_; rintro e w' ⟨rfl, rfl⟩)
                  go_ret
                  exact ⟨ret_bool HF.out.symm, (Below.refl _ _).alloc (Nat.le_refl _) _⟩
        · have HK := hid (show t.kind = 0 by simpa using hk)
          cases h3 : inB t.part 1 100
          · skip
            have HF : Hid (treI i t = false) := hid (by simp [treI, treV, offB, quotaB, h1, h0, h2, HK.out, h3])
            go_enter Try.func106, Try.ntmps106
            go_wp2_with (go_at_call 59; refine (in_any _ _ _ _).mono ?_; rintro e w' ⟨rfl, rfl⟩)
            go_ret
            exact ⟨ret_bool HF.out.symm, (Below.refl _ _).alloc (Nat.le_refl _) _⟩
          · skip
            cases h4 : (t.above == 0)
            · skip
              have HF : Hid (treI i t = false) := hid (by simp [treI, treV, offB, quotaB, h1, h0, h2, HK.out, h3, h4])
              go_enter Try.func106, Try.ntmps106
              go_wp2_with (go_at_call 59; refine (in_any _ _ _ _).mono ?_; rintro e w' ⟨rfl, rfl⟩)
              go_ret
              exact ⟨ret_bool HF.out.symm, (Below.refl _ _).alloc (Nat.le_refl _) _⟩
            · skip
              cases h5 : (t.most == 0)
              · skip
                have HF : Hid (treI i t = false) := hid (by simp [treI, treV, offB, quotaB, h1, h0, h2, HK.out, h3, h4, h5])
                go_enter Try.func106, Try.ntmps106
                go_wp2_with (go_at_call 59; refine (in_any _ _ _ _).mono ?_; rintro e w' ⟨rfl, rfl⟩)
                go_ret
                exact ⟨ret_bool HF.out.symm, (Below.refl _ _).alloc (Nat.le_refl _) _⟩
              · skip
                cases h6 : (t.times == 0)
                · skip
                  have HF : Hid (treI i t = false) := hid (by simp [treI, treV, offB, quotaB, h1, h0, h2, HK.out, h3, h4, h5, h6])
                  go_enter Try.func106, Try.ntmps106
                  go_wp2_with (go_at_call 59; refine (in_any _ _ _ _).mono ?_; rintro e w' ⟨rfl, rfl⟩)
                  go_ret
                  exact ⟨ret_bool HF.out.symm, (Below.refl _ _).alloc (Nat.le_refl _) _⟩
                · skip
                  have HF : Hid (treI i t = true) := hid (by simp [treI, treV, offB, quotaB, h1, h0, h2, HK.out, h3, h4, h5, h6])
                  go_enter Try.func106, Try.ntmps106
                  go_wp2_with (go_at_call 59; refine (in_any _ _ _ _).mono ?_; rintro e w' ⟨rfl, rfl⟩)
                  go_ret
                  exact ⟨ret_bool HF.out.symm, (Below.refl _ _).alloc (Nat.le_refl _) _⟩

set_option maxRecDepth 20000 in
set_option maxHeartbeats 1000000 in
theorem loss_any (r : Rng) (w : World) : Calls Try.prog 71 #[.agg #[.int .i64 r.lo, .int .i64 r.hi]] w fun e w' => e = .returned (.bool (lossB r)) ∧ Below w.heap.size w w' := by
  have HO := hid (fun W => of_any r 1000 W)
  go_enter Try.func71, Try.ntmps71
  go_wp2_with fail
  refine (HO.out _).mono ?_
  rintro e w1 ⟨rfl, hb⟩
  have H1 : Hid (Boxed1 w #[.int .i64 r.lo, .int .i64 r.hi] 51 w1) := hid (hb.mono (by simp))
  clear hb
  go_wp2_with fail
  go_ret
  exact ⟨rfl, H1.out.below⟩

set_option maxRecDepth 20000 in
set_option maxHeartbeats 2000000 in
theorem report_any (p : Prg) (lp : Option Addr) (ln lc : Nat) (tp : Option Addr) (tn tc : Nat) (rp : Option Addr) (rn rc : Nat) (x : Rep) (w : World) (htn : tn ≤ 1000000) : Calls Try.prog 68 #[.agg #[.slice lp ln lc, .int .i64 p.reserve, .slice tp tn tc, .slice rp rn rc], .agg #[.int .i64 x.tr, .int .i64 x.paid.lo, .int .i64 x.paid.hi]] w fun e w' => e = .returned (.bool (repB tn x)) ∧ Below w.heap.size w w' := by
  have HO := hid (fun W => of_any x.paid 10000 W)
  have HS : Hid (Boxed2 w #[.slice lp ln lc, .int .i64 p.reserve, .slice tp tn tc, .slice rp rn rc] 37 #[.int .i64 x.tr, .int .i64 x.paid.lo, .int .i64 x.paid.hi] 89 ((w.alloc (.cells #[.slice lp ln lc, .int .i64 p.reserve, .slice tp tn tc, .slice rp rn rc] 37)).alloc (.cells #[.int .i64 x.tr, .int .i64 x.paid.lo, .int .i64 x.paid.hi] 89))) := hid (Below.refl _ _)
  cases h1 : inB x.tr 0 ((tn : Int) - 1)
  · have HF : Hid (repB tn x = false) := hid (by simp [repB, h1])
    go_enter Try.func68, Try.ntmps68
    go_wp2_with (go_at_call 69; refine (within_any _ _ _ _).mono ?_; rintro e w' ⟨rfl, rfl⟩)
    go_ret
    exact ⟨ret_bool HF.out.symm, HS.out.below⟩
  · have HF : Hid (repB tn x = x.paid.of 0 10000) := hid (by simp [repB, h1])
    go_enter Try.func68, Try.ntmps68
    go_wp2_with (go_at_call 69; refine (within_any _ _ _ _).mono ?_; rintro e w' ⟨rfl, rfl⟩)
    refine (HO.out _).mono ?_
    rintro e w1 ⟨rfl, hb⟩
    have H1 := hid (HS.out.step1 hb)
    clear hb
    go_wp2_with fail
    go_ret
    exact ⟨ret_bool HF.out.symm, H1.out.below⟩

/-- IndexFunc: the first place, from one on, at which f is; -1 if there is none. -/
def findG {α : Type} (f : α → Bool) : Int → List α → Int
  | _, [] => -1
  | i, a :: r => if f a = true then i else findG f (i + 1) r
theorem findG_all {α : Type} (f : α → Bool) : ∀ (i : Int) (l : List α), 0 ≤ i → decide (0 ≤ findG (fun x => !f x) i l) = !(l.all f)
  | i, [], _ => by simp [findG]
  | i, a :: r, h => by
    unfold findG
    cases hf : f a
    · simp [hf, h]
    · have := findG_all f (i + 1) r (by omega)
      simp [hf]
      simpa using this

set_option maxRecDepth 20000 in
set_option maxHeartbeats 1000000 in
theorem notRng_any  (x : Rng) (B : Nat) (w : World)  (hB : w.cell? ⟨B, 0, none⟩ = some (.func (.func 71) #[] #[])) :
    Calls Try.prog 110 #[.agg #[.int .i64 x.lo, .int .i64 x.hi], .pointer (some ⟨B, 0, none⟩)] w fun e w' => e = .returned (.bool (!lossB x)) ∧ Below w.heap.size w w' := by
  have hlt := World.block_lt_of_cell? w _ hB
  have HO := hid (fun W (hW : Below w.heap.size w W) => loss_any x W)
  have H0 : Hid (Below w.heap.size w (w.alloc (.cells #[.int .i64 x.lo, .int .i64 x.hi] 51))) := hid ((Below.refl _ _).alloc (Nat.le_refl _) _)
  clear hlt
  have hlt := World.block_lt_of_cell? w _ hB
  go_enter Try.func110, Try.ntmps110
  go_wp2_with fail
  refine (HO.out _ H0.out).mono ?_
  rintro e w1 ⟨rfl, hb⟩
  have H1 := hid (H0.out.trans (hb.mono H0.out.size))
  clear hb
  go_wp2_with fail
  go_ret
  exact ⟨rfl, H1.out⟩

set_option maxRecDepth 20000 in
set_option maxHeartbeats 1000000 in
theorem indexRng_any  (q : Option Addr) (m d : Nat) (cs : List Rng) (B : Nat) (w : World)  (hm : m ≤ 1000000) (hcs : RowsAt cellsR 2 w q m cs) (hB : w.cell? ⟨B, 0, none⟩ = some (.func (.func 71) #[] #[])) :
    Calls Try.prog 127 #[.slice q m d, .func (.func 110) #[] #[.pointer (some ⟨B, 0, none⟩)]] w fun e w' => e = .returned (.int .i64 (findG (fun x => !lossB x) 0 cs)) ∧ Below w.heap.size w w' := by
  have hlt := World.block_lt_of_cell? w _ hB
  have HN := hid (fun (x : Rng) W (hW : Below w.heap.size w W) => notRng_any  x B W  ((hW.cell (p := ⟨B, 0, none⟩) hlt).trans hB))
  have HCS := hid hcs
  clear hcs hB
  go_enter Try.func127, Try.ntmps127
  go_wp2
  go_loopw [5, 8] (fun _ i wr => ∃ k : Nat, k ≤ m ∧ i = .int .i64 k ∧ findG (fun x => !lossB x) k (cs.drop k) = findG (fun x => !lossB x) 0 cs ∧ Below w.heap.size w wr) (fun _ i _ => m - (intOf i).toNat)
  case atStart => exact ⟨0, by omega, rfl, rfl, Below.refl _ _⟩
  case round =>
    obtain ⟨k, hk, rfl, hr, hb⟩ := hrel
    have HR := hid hr
    clear hr
    by_cases hlt : k < m
    · obtain ⟨x, hx, b1, o1, rfl, hb1, hc0, hc1⟩ := (HCS.out.below hb).rng hlt
      have HD := hid (drop_at' hx)
      clear hx
      cases hp : (!lossB x)
      · have HF : Hid (findG (fun x => !lossB x) ((k + 1 : Nat) : Int) (cs.drop (k + 1)) = findG (fun x => !lossB x) 0 cs) := by show _ = _; rw [← HR.out, HD.out, findG]; simp only [hp]; rfl
        go_wp2_with (go_at_call 110; refine (HN.out x _ ?_).mono ?_; exact hb; rintro e w1 ⟨rfl, hb2⟩)
        go_roundw
        case rel => exact ⟨k + 1, by omega, by go_num, HF.out, hb.trans (hb2.mono hb.size)⟩
        case measure => simp [intOf]; omega
      · have HF : Hid ((k : Int) = findG (fun x => !lossB x) 0 cs) := by show _ = _; rw [← HR.out, HD.out, findG]; simp only [hp]; rfl
        go_wp2_with (go_at_call 110; refine (HN.out x _ ?_).mono ?_; exact hb; rintro e w1 ⟨rfl, hb2⟩)
        go_ret
        exact ⟨ret_int HF.out, hb.trans (hb2.mono hb.size)⟩
    · have HF : Hid (-1 = findG (fun x => !lossB x) 0 cs) := by show _ = _; rw [← HR.out, List.drop_of_length_le (by have := HCS.out.1; omega)]; rfl
      go_wp2
      go_ret
      exact ⟨ret_int HF.out, hb⟩

set_option maxRecDepth 20000 in
set_option maxHeartbeats 1000000 in
theorem containsRng_any  (q : Option Addr) (m d : Nat) (cs : List Rng) (B : Nat) (w : World)  (hm : m ≤ 1000000) (hcs : RowsAt cellsR 2 w q m cs) (hB : w.cell? ⟨B, 0, none⟩ = some (.func (.func 71) #[] #[])) :
    Calls Try.prog 109 #[.slice q m d, .func (.func 110) #[] #[.pointer (some ⟨B, 0, none⟩)]] w fun e w' => e = .returned (.bool (!(cs.all (lossB)))) ∧ Below w.heap.size w w' := by
  have HC := hid (indexRng_any  q m d cs B w  hm hcs hB)
  have HF := hid (findG_all (lossB) 0 cs (by omega))
  clear hcs hB
  go_enter Try.func109, Try.ntmps109
  go_wp2_with fail
  refine HC.out.mono ?_
  rintro e w1 ⟨rfl, hb⟩
  generalize findG (fun x => !lossB x) 0 cs = z at *
  go_wp2
  go_ret
  exact ⟨ret_bool HF.out, hb⟩

set_option maxRecDepth 20000 in
set_option maxHeartbeats 1000000 in
theorem allRng_any  (q : Option Addr) (m d : Nat) (cs : List Rng) (w : World)  (hm : m ≤ 1000000) (hcs : RowsAt cellsR 2 w q m cs) :
    Calls Try.prog 70 #[.slice q m d, .func (.func 71) #[] #[]] w fun e w' => e = .returned (.bool (cs.all (lossB))) ∧ Below w.heap.size w w' := by
  have HC := hid (containsRng_any  q m d cs w.heap.size (w.alloc (.cells #[.func (.func 71) #[] #[]] 124))  hm (hcs.below ((Below.refl _ _).alloc (Nat.le_refl _) _)) (cell_box _ _ _ 0 _ rfl))
  clear hcs
  have hmf : ∀ (fn : Fn) (first cap : Array Value) (w : World), (Instr.makeFunc fn first cap).run Try.prog w = .ok (.func fn first cap) w := fun _ _ _ _ => rfl
  go_enter Try.func70, Try.ntmps70
  go_wp2_with fail
  refine HC.out.mono ?_
  rintro e w1 ⟨rfl, hb⟩
  go_wp2
  go_ret
  exact ⟨ret_bool (by simp), ((Below.refl _ _).alloc (Nat.le_refl _) _).trans (hb.mono (by simp))⟩

set_option maxRecDepth 20000 in
set_option maxHeartbeats 1000000 in
theorem notTre_any  (x : Tre) (B : Nat) (w : World)  (hB : w.cell? ⟨B, 0, none⟩ = some (.func (.func 73) #[] #[])) :
    Calls Try.prog 112 #[.agg #[.int .i64 x.kind, .int .i64 x.part, .int .i64 x.above, .int .i64 x.most, .int .i64 x.times, .int .i64 x.price, .int .i64 x.off], .pointer (some ⟨B, 0, none⟩)] w fun e w' => e = .returned (.bool (!treV x)) ∧ Below w.heap.size w w' := by
  have hlt := World.block_lt_of_cell? w _ hB
  have HO := hid (fun W (hW : Below w.heap.size w W) => valid_any x W)
  have H0 : Hid (Below w.heap.size w (w.alloc (.cells #[.int .i64 x.kind, .int .i64 x.part, .int .i64 x.above, .int .i64 x.most, .int .i64 x.times, .int .i64 x.price, .int .i64 x.off] 87))) := hid ((Below.refl _ _).alloc (Nat.le_refl _) _)
  clear hlt
  have hlt := World.block_lt_of_cell? w _ hB
  go_enter Try.func112, Try.ntmps112
  go_wp2_with fail
  refine (HO.out _ H0.out).mono ?_
  rintro e w1 ⟨rfl, hb⟩
  have H1 := hid (H0.out.trans (hb.mono H0.out.size))
  clear hb
  go_wp2_with fail
  go_ret
  exact ⟨rfl, H1.out⟩

set_option maxRecDepth 20000 in
set_option maxHeartbeats 1000000 in
theorem indexTre_any  (q : Option Addr) (m d : Nat) (cs : List Tre) (B : Nat) (w : World)  (hm : m ≤ 1000000) (hcs : RowsAt cellsT 7 w q m cs) (hB : w.cell? ⟨B, 0, none⟩ = some (.func (.func 73) #[] #[])) :
    Calls Try.prog 128 #[.slice q m d, .func (.func 112) #[] #[.pointer (some ⟨B, 0, none⟩)]] w fun e w' => e = .returned (.int .i64 (findG (fun x => !treV x) 0 cs)) ∧ Below w.heap.size w w' := by
  have hlt := World.block_lt_of_cell? w _ hB
  have HN := hid (fun (x : Tre) W (hW : Below w.heap.size w W) => notTre_any  x B W  ((hW.cell (p := ⟨B, 0, none⟩) hlt).trans hB))
  have HCS := hid hcs
  clear hcs hB
  go_enter Try.func128, Try.ntmps128
  go_wp2
  go_loopw [5, 8] (fun _ i wr => ∃ k : Nat, k ≤ m ∧ i = .int .i64 k ∧ findG (fun x => !treV x) k (cs.drop k) = findG (fun x => !treV x) 0 cs ∧ Below w.heap.size w wr) (fun _ i _ => m - (intOf i).toNat)
  case atStart => exact ⟨0, by omega, rfl, rfl, Below.refl _ _⟩
  case round =>
    obtain ⟨k, hk, rfl, hr, hb⟩ := hrel
    have HR := hid hr
    clear hr
    by_cases hlt : k < m
    · obtain ⟨x, hx, b1, o1, rfl, hb1, hc0, hc1, hc2, hc3, hc4, hc5, hc6⟩ := (HCS.out.below hb).tre hlt
      have HD := hid (drop_at' hx)
      clear hx
      cases hp : (!treV x)
      · have HF : Hid (findG (fun x => !treV x) ((k + 1 : Nat) : Int) (cs.drop (k + 1)) = findG (fun x => !treV x) 0 cs) := by show _ = _; rw [← HR.out, HD.out, findG]; simp only [hp]; rfl
        go_wp2_with (go_at_call 112; refine (HN.out x _ ?_).mono ?_; exact hb; rintro e w1 ⟨rfl, hb2⟩)
        go_roundw
        case rel => exact ⟨k + 1, by omega, by go_num, HF.out, hb.trans (hb2.mono hb.size)⟩
        case measure => simp [intOf]; omega
      · have HF : Hid ((k : Int) = findG (fun x => !treV x) 0 cs) := by show _ = _; rw [← HR.out, HD.out, findG]; simp only [hp]; rfl
        go_wp2_with (go_at_call 112; refine (HN.out x _ ?_).mono ?_; exact hb; rintro e w1 ⟨rfl, hb2⟩)
        go_ret
        exact ⟨ret_int HF.out, hb.trans (hb2.mono hb.size)⟩
    · have HF : Hid (-1 = findG (fun x => !treV x) 0 cs) := by show _ = _; rw [← HR.out, List.drop_of_length_le (by have := HCS.out.1; omega)]; rfl
      go_wp2
      go_ret
      exact ⟨ret_int HF.out, hb⟩

set_option maxRecDepth 20000 in
set_option maxHeartbeats 1000000 in
theorem containsTre_any  (q : Option Addr) (m d : Nat) (cs : List Tre) (B : Nat) (w : World)  (hm : m ≤ 1000000) (hcs : RowsAt cellsT 7 w q m cs) (hB : w.cell? ⟨B, 0, none⟩ = some (.func (.func 73) #[] #[])) :
    Calls Try.prog 111 #[.slice q m d, .func (.func 112) #[] #[.pointer (some ⟨B, 0, none⟩)]] w fun e w' => e = .returned (.bool (!(cs.all (treV)))) ∧ Below w.heap.size w w' := by
  have HC := hid (indexTre_any  q m d cs B w  hm hcs hB)
  have HF := hid (findG_all (treV) 0 cs (by omega))
  clear hcs hB
  go_enter Try.func111, Try.ntmps111
  go_wp2_with fail
  refine HC.out.mono ?_
  rintro e w1 ⟨rfl, hb⟩
  generalize findG (fun x => !treV x) 0 cs = z at *
  go_wp2
  go_ret
  exact ⟨ret_bool HF.out, hb⟩

set_option maxRecDepth 20000 in
set_option maxHeartbeats 1000000 in
theorem allTre_any  (q : Option Addr) (m d : Nat) (cs : List Tre) (w : World)  (hm : m ≤ 1000000) (hcs : RowsAt cellsT 7 w q m cs) :
    Calls Try.prog 72 #[.slice q m d, .func (.func 73) #[] #[]] w fun e w' => e = .returned (.bool (cs.all (treV))) ∧ Below w.heap.size w w' := by
  have HC := hid (containsTre_any  q m d cs w.heap.size (w.alloc (.cells #[.func (.func 73) #[] #[]] 126))  hm (hcs.below ((Below.refl _ _).alloc (Nat.le_refl _) _)) (cell_box _ _ _ 0 _ rfl))
  clear hcs
  have hmf : ∀ (fn : Fn) (first cap : Array Value) (w : World), (Instr.makeFunc fn first cap).run Try.prog w = .ok (.func fn first cap) w := fun _ _ _ _ => rfl
  go_enter Try.func72, Try.ntmps72
  go_wp2_with fail
  refine HC.out.mono ?_
  rintro e w1 ⟨rfl, hb⟩
  go_wp2
  go_ret
  exact ⟨ret_bool (by simp), ((Below.refl _ _).alloc (Nat.le_refl _) _).trans (hb.mono (by simp))⟩

set_option maxRecDepth 20000 in
set_option maxHeartbeats 1000000 in
theorem notRep_any (p : Prg) (lp : Option Addr) (ln lc : Nat) (tp : Option Addr) (tn tc : Nat) (rp : Option Addr) (rn rc : Nat) (x : Rep) (B : Nat) (w : World) (htn : tn ≤ 1000000) (hB : w.cell? ⟨B, 0, none⟩ = some (.func (.func 68) #[.agg #[.slice lp ln lc, .int .i64 p.reserve, .slice tp tn tc, .slice rp rn rc]] #[])) :
    Calls Try.prog 114 #[.agg #[.int .i64 x.tr, .int .i64 x.paid.lo, .int .i64 x.paid.hi], .pointer (some ⟨B, 0, none⟩)] w fun e w' => e = .returned (.bool (!repB tn x)) ∧ Below w.heap.size w w' := by
  have hlt := World.block_lt_of_cell? w _ hB
  have HO := hid (fun W (hW : Below w.heap.size w W) => report_any p lp ln lc tp tn tc rp rn rc x W htn)
  have H0 : Hid (Below w.heap.size w (w.alloc (.cells #[.int .i64 x.tr, .int .i64 x.paid.lo, .int .i64 x.paid.hi] 89))) := hid ((Below.refl _ _).alloc (Nat.le_refl _) _)
  have hlt := World.block_lt_of_cell? w _ hB
  go_enter Try.func114, Try.ntmps114
  go_wp2_with fail
  refine (HO.out _ H0.out).mono ?_
  rintro e w1 ⟨rfl, hb⟩
  have H1 := hid (H0.out.trans (hb.mono H0.out.size))
  clear hb
  go_wp2_with fail
  go_ret
  exact ⟨rfl, H1.out⟩

set_option maxRecDepth 20000 in
set_option maxHeartbeats 1000000 in
theorem indexRep_any (p : Prg) (lp : Option Addr) (ln lc : Nat) (tp : Option Addr) (tn tc : Nat) (rp : Option Addr) (rn rc : Nat) (q : Option Addr) (m d : Nat) (cs : List Rep) (B : Nat) (w : World) (htn : tn ≤ 1000000) (hm : m ≤ 1000000) (hcs : RowsAt cellsE 3 w q m cs) (hB : w.cell? ⟨B, 0, none⟩ = some (.func (.func 68) #[.agg #[.slice lp ln lc, .int .i64 p.reserve, .slice tp tn tc, .slice rp rn rc]] #[])) :
    Calls Try.prog 129 #[.slice q m d, .func (.func 114) #[] #[.pointer (some ⟨B, 0, none⟩)]] w fun e w' => e = .returned (.int .i64 (findG (fun x => !repB tn x) 0 cs)) ∧ Below w.heap.size w w' := by
  have hlt := World.block_lt_of_cell? w _ hB
  have HN := hid (fun (x : Rep) W (hW : Below w.heap.size w W) => notRep_any p lp ln lc tp tn tc rp rn rc x B W htn ((hW.cell (p := ⟨B, 0, none⟩) hlt).trans hB))
  have HCS := hid hcs
  clear hcs hB
  go_enter Try.func129, Try.ntmps129
  go_wp2
  go_loopw [5, 8] (fun _ i wr => ∃ k : Nat, k ≤ m ∧ i = .int .i64 k ∧ findG (fun x => !repB tn x) k (cs.drop k) = findG (fun x => !repB tn x) 0 cs ∧ Below w.heap.size w wr) (fun _ i _ => m - (intOf i).toNat)
  case atStart => exact ⟨0, by omega, rfl, rfl, Below.refl _ _⟩
  case round =>
    obtain ⟨k, hk, rfl, hr, hb⟩ := hrel
    have HR := hid hr
    clear hr
    by_cases hlt : k < m
    · obtain ⟨x, hx, b1, o1, rfl, hb1, hc0, hc1, hc2⟩ := (HCS.out.below hb).rep hlt
      have HD := hid (drop_at' hx)
      clear hx
      cases hp : (!repB tn x)
      · have HF : Hid (findG (fun x => !repB tn x) ((k + 1 : Nat) : Int) (cs.drop (k + 1)) = findG (fun x => !repB tn x) 0 cs) := by show _ = _; rw [← HR.out, HD.out, findG]; simp only [hp]; rfl
        go_wp2_with (go_at_call 114; refine (HN.out x _ ?_).mono ?_; exact hb; rintro e w1 ⟨rfl, hb2⟩)
        go_roundw
        case rel => exact ⟨k + 1, by omega, by go_num, HF.out, hb.trans (hb2.mono hb.size)⟩
        case measure => simp [intOf]; omega
      · have HF : Hid ((k : Int) = findG (fun x => !repB tn x) 0 cs) := by show _ = _; rw [← HR.out, HD.out, findG]; simp only [hp]; rfl
        go_wp2_with (go_at_call 114; refine (HN.out x _ ?_).mono ?_; exact hb; rintro e w1 ⟨rfl, hb2⟩)
        go_ret
        exact ⟨ret_int HF.out, hb.trans (hb2.mono hb.size)⟩
    · have HF : Hid (-1 = findG (fun x => !repB tn x) 0 cs) := by show _ = _; rw [← HR.out, List.drop_of_length_le (by have := HCS.out.1; omega)]; rfl
      go_wp2
      go_ret
      exact ⟨ret_int HF.out, hb⟩

set_option maxRecDepth 20000 in
set_option maxHeartbeats 1000000 in
theorem containsRep_any (p : Prg) (lp : Option Addr) (ln lc : Nat) (tp : Option Addr) (tn tc : Nat) (rp : Option Addr) (rn rc : Nat) (q : Option Addr) (m d : Nat) (cs : List Rep) (B : Nat) (w : World) (htn : tn ≤ 1000000) (hm : m ≤ 1000000) (hcs : RowsAt cellsE 3 w q m cs) (hB : w.cell? ⟨B, 0, none⟩ = some (.func (.func 68) #[.agg #[.slice lp ln lc, .int .i64 p.reserve, .slice tp tn tc, .slice rp rn rc]] #[])) :
    Calls Try.prog 113 #[.slice q m d, .func (.func 114) #[] #[.pointer (some ⟨B, 0, none⟩)]] w fun e w' => e = .returned (.bool (!(cs.all (repB tn)))) ∧ Below w.heap.size w w' := by
  have HC := hid (indexRep_any p lp ln lc tp tn tc rp rn rc q m d cs B w htn hm hcs hB)
  have HF := hid (findG_all (repB tn) 0 cs (by omega))
  clear hcs hB
  go_enter Try.func113, Try.ntmps113
  go_wp2_with fail
  refine HC.out.mono ?_
  rintro e w1 ⟨rfl, hb⟩
  generalize findG (fun x => !repB tn x) 0 cs = z at *
  go_wp2
  go_ret
  exact ⟨ret_bool HF.out, hb⟩

set_option maxRecDepth 20000 in
set_option maxHeartbeats 1000000 in
theorem allRep_any (p : Prg) (lp : Option Addr) (ln lc : Nat) (tp : Option Addr) (tn tc : Nat) (rp : Option Addr) (rn rc : Nat) (q : Option Addr) (m d : Nat) (cs : List Rep) (w : World) (htn : tn ≤ 1000000) (hm : m ≤ 1000000) (hcs : RowsAt cellsE 3 w q m cs) :
    Calls Try.prog 75 #[.slice q m d, .func (.func 68) #[.agg #[.slice lp ln lc, .int .i64 p.reserve, .slice tp tn tc, .slice rp rn rc]] #[]] w fun e w' => e = .returned (.bool (cs.all (repB tn))) ∧ Below w.heap.size w w' := by
  have HC := hid (containsRep_any p lp ln lc tp tn tc rp rn rc q m d cs w.heap.size (w.alloc (.cells #[.func (.func 68) #[.agg #[.slice lp ln lc, .int .i64 p.reserve, .slice tp tn tc, .slice rp rn rc]] #[]] 122)) htn hm (hcs.below ((Below.refl _ _).alloc (Nat.le_refl _) _)) (cell_box _ _ _ 0 _ rfl))
  clear hcs
  have hmf : ∀ (fn : Fn) (first cap : Array Value) (w : World), (Instr.makeFunc fn first cap).run Try.prog w = .ok (.func fn first cap) w := fun _ _ _ _ => rfl
  go_enter Try.func75, Try.ntmps75
  go_wp2_with fail
  refine HC.out.mono ?_
  rintro e w1 ⟨rfl, hb⟩
  go_wp2
  go_ret
  exact ⟨ret_bool (by simp), ((Below.refl _ _).alloc (Nat.le_refl _) _).trans (hb.mono (by simp))⟩
end Go.Proofs.Ytaioobhblfnlaaa
