/- The smallest functions of package treaty, of its reference and of the statements: numbers, ranges, lists. No condition. -/
import Derived.Test.YtaioobhblfnlaaaStr
import Derived.Test.YtaioobhblfnlaaaPlB
namespace Go.Proofs.Ytaioobhblfnlaaa
open Go.RowKit

theorem in_any (n lo hi : Int) (w : World) :
    Calls Try.prog 59 #[.int .i64 n, .int .i64 lo, .int .i64 hi] w fun e w' => e = .returned (.bool (inB n lo hi)) ∧ w' = w := by
  have HF := hid (show inB n lo hi = (decide (lo ≤ n) && decide (n ≤ hi)) from rfl)
  by_cases h1 : lo ≤ n
  · go_enter Try.func59, Try.ntmps59
    go_wp2
    go_ret
    exact ⟨ret_bool (by rw [HF.out]; simp [h1]), rfl⟩
  · go_enter Try.func59, Try.ntmps59
    go_wp2
    go_ret
    exact ⟨ret_bool (by rw [HF.out]; simp; omega), rfl⟩

theorem within_any (n lo hi : Int) (w : World) :
    Calls Try.prog 69 #[.int .i64 n, .int .i64 lo, .int .i64 hi] w fun e w' => e = .returned (.bool (inB n lo hi)) ∧ w' = w := by
  have HF := hid (show inB n lo hi = (decide (lo ≤ n) && decide (n ≤ hi)) from rfl)
  by_cases h1 : lo ≤ n
  · go_enter Try.func69, Try.ntmps69
    go_wp2
    go_ret
    exact ⟨ret_bool (by rw [HF.out]; simp [h1]), rfl⟩
  · go_enter Try.func69, Try.ntmps69
    go_wp2
    go_ret
    exact ⟨ret_bool (by rw [HF.out]; simp; omega), rfl⟩

set_option maxHeartbeats 400000 in
theorem withinR_any (r : Rng) (lo hi : Int) (w : World) :
    Calls Try.prog 105 #[.agg #[.int .i64 r.lo, .int .i64 r.hi], .int .i64 lo, .int .i64 hi] w fun e w' => e = .returned (.bool (r.of lo hi)) ∧ Below w.heap.size w w' := by
  have HF := hid (show r.of lo hi = (decide (lo ≤ r.lo) && (decide (r.lo ≤ r.hi) && decide (r.hi ≤ hi))) from rfl)
  by_cases h1 : lo ≤ r.lo
  · by_cases h2 : r.lo ≤ r.hi
    · go_enter Try.func105, Try.ntmps105
      go_wp2
      go_ret
      exact ⟨ret_bool (by rw [HF.out]; simp [h1, h2]), (Below.refl _ _).alloc (Nat.le_refl _) _⟩
    · go_enter Try.func105, Try.ntmps105
      go_wp2
      go_ret
      exact ⟨ret_bool (by rw [HF.out]; simp; omega), (Below.refl _ _).alloc (Nat.le_refl _) _⟩
  · go_enter Try.func105, Try.ntmps105
    go_wp2
    go_ret
    exact ⟨ret_bool (by rw [HF.out]; simp; omega), (Below.refl _ _).alloc (Nat.le_refl _) _⟩

set_option maxHeartbeats 400000 in
theorem of_any (r : Rng) (hi : Int) (w : World) :
    Calls Try.prog 108 #[.agg #[.int .i64 r.lo, .int .i64 r.hi], .int .i64 hi] w fun e w' => e = .returned (.bool (r.of 0 hi)) ∧ Below w.heap.size w w' := by
  have HF := hid (show r.of 0 hi = (decide (0 ≤ r.lo) && (decide (r.lo ≤ r.hi) && decide (r.hi ≤ hi))) from rfl)
  by_cases h1 : 0 ≤ r.lo
  · by_cases h2 : r.lo ≤ r.hi
    · go_enter Try.func108, Try.ntmps108
      go_wp2
      go_ret
      exact ⟨ret_bool (by rw [HF.out]; simp [h1, h2]), (Below.refl _ _).alloc (Nat.le_refl _) _⟩
    · go_enter Try.func108, Try.ntmps108
      go_wp2
      go_ret
      exact ⟨ret_bool (by rw [HF.out]; simp; omega), (Below.refl _ _).alloc (Nat.le_refl _) _⟩
  · go_enter Try.func108, Try.ntmps108
    go_wp2
    go_ret
    exact ⟨ret_bool (by rw [HF.out]; simp; omega), (Below.refl _ _).alloc (Nat.le_refl _) _⟩

theorem count_any (r : Rng) (w : World) (h1 : -1000000 ≤ r.lo) (h2 : r.lo ≤ 1000000) (h3 : -1000000 ≤ r.hi) (h4 : r.hi ≤ 1000000) :
    Calls Try.prog 102 #[.agg #[.int .i64 r.lo, .int .i64 r.hi]] w fun e w' => e = .returned (.int .i64 r.cnt) ∧ Below w.heap.size w w' := by
  go_enter Try.func102, Try.ntmps102
  go_wp2
  go_ret
  exact ⟨rfl, (Below.refl _ _).alloc (Nat.le_refl _) _⟩

theorem rsize_any (r : Rng) (w : World) (h1 : -1000000 ≤ r.lo) (h2 : r.lo ≤ 1000000) (h3 : -1000000 ≤ r.hi) (h4 : r.hi ≤ 1000000) :
    Calls Try.prog 77 #[.agg #[.int .i64 r.lo, .int .i64 r.hi]] w fun e w' => e = .returned (.int .i64 r.cnt) ∧ Below w.heap.size w w' := by
  go_enter Try.func77, Try.ntmps77
  go_wp2
  go_ret
  exact ⟨rfl, (Below.refl _ _).alloc (Nat.le_refl _) _⟩

theorem has_any (r : Rng) (n : Int) (w : World) : Calls Try.prog 64 #[.agg #[.int .i64 r.lo, .int .i64 r.hi], .int .i64 n] w fun e w' => e = .returned (.bool (inB n r.lo r.hi)) ∧ Below w.heap.size w w' := by
  go_enter Try.func64, Try.ntmps64
  go_wp2_with (go_at_call 69; refine (within_any _ _ _ _).mono ?_; rintro e w' ⟨rfl, rfl⟩)
  go_ret
  exact ⟨rfl, (Below.refl _ _).alloc (Nat.le_refl _) _⟩

set_option maxHeartbeats 400000 in
theorem bits_any (m : Int) (w : World) (hm : 0 ≤ m) (hm' : m < 4096) :
    Calls Try.prog 42 #[.int .i64 m] w (RetInts w (bitsL m)) := by
  go_enter Try.func42, Try.ntmps42
  go_wp2
  go_loopw [3, 4] (fun v i wr => ∃ (k : Nat), k ≤ 12 ∧ i = .int .i64 k ∧ OwnInts wr w.heap.size v (bitsTo m k) ∧ Below w.heap.size w wr) (fun _ i _ => 12 - (intOf i).toNat)
  case atStart => exact ⟨0, by omega, rfl, ownInts_nil _ _, Below.refl _ _⟩
  case round =>
    obtain ⟨k, hk, rfl, ho, hb⟩ := hrel
    have hal : (bitsTo m k).length ≤ 1000000 := Nat.le_trans (bitsTo_len _ _) (by omega)
    by_cases hp : 0 < m / 2 ^ k
    · have hk' := lt_of_div_pow hm hm' hp
      cases hx : bitB m k
      · have HF : Hid (bitsTo m (k + 1) = bitsTo m k) := by show _ = _; rw [bitsTo_succ]; simp [hx]
        have hx' : (m / 2 ^ k % 2 == 1) = false := hx
        clear hx
        go_wp2
        go_roundw
        case rel => exact ⟨k + 1, by omega, by go_num, by rw [HF.out]; exact ho, hb⟩
        case measure => simp [intOf]; omega
      · have HF : Hid (bitsTo m (k + 1) = bitsTo m k ++ [(k : Int)]) := by show _ = _; rw [bitsTo_succ]; simp [hx]
        have hx' : (m / 2 ^ k % 2 == 1) = true := hx
        clear hx
        go_wp2_with (at_builtin; refine append_int (by rfl) _ _ (by rfl) w.heap.size _ (bitsTo m k) _ ho (by rfl) (by rfl) hal hb.size ?_; intro v' w' ho' hb'; have hb2 := hb.trans hb')
        go_roundw
        case rel => exact ⟨k + 1, by omega, by go_num, by rw [HF.out]; exact ho', hb2⟩
        case measure => simp [intOf]; omega
    · have hp' : m / 2 ^ k ≤ 0 := by omega
      have HF : Hid (bitsL m = bitsTo m k) := bitsTo_end hm hp' hk
      clear hp
      go_wp2
      go_ret
      exact ⟨_, rfl, HF.out ▸ ho, hb⟩

set_option maxHeartbeats 800000 in
theorem before_any (p : Option Addr) (n c : Nat) (l : List Int) (q : Option Addr) (m d : Nat) (h : List Int) (w : World) (hl : IntsAt w p n l) (hh : IntsAt w q m h) (hn : n ≤ 1000000) (_hm : m ≤ 1000000) :
    Calls Try.prog 104 #[.slice p n c, .slice q m d] w fun e w' => e = .returned (.bool (beforeB l h)) ∧ ∃ nn, w' = w.drewN nn := by
  have HL := hid hl
  have HH := hid hh
  clear hl hh
  go_enter Try.func104, Try.ntmps104
  go_wp2
  go_loopw [5] (fun i wr => ∃ (k : Nat), k ≤ n ∧ k ≤ m ∧ i = .int .i64 k ∧ beforeB (l.drop k) (h.drop k) = beforeB l h ∧ ∃ nn, wr = w.drewN nn) (fun i _ => n - (intOf i).toNat)
  case atStart => exact ⟨0, Nat.zero_le _, Nat.zero_le _, rfl, rfl, 0, rfl⟩
  case round =>
    obtain ⟨k, hk, hk', rfl, hr, nn, hw⟩ := hrel
    subst hw
    have HR := hid hr
    clear hr
    by_cases h1 : k < n
    · by_cases h2 : k < m
      · obtain ⟨b1, o1, rfl, hb1, hc1⟩ := HL.out.at h1
        obtain ⟨b2, o2, rfl, hb2, hc2⟩ := HH.out.at h2
        have HD := hid (drop_at l k (by have := HL.out.1; omega))
        have HD' := hid (drop_at h k (by have := HH.out.1; omega))
        by_cases hx : l[k]?.getD 0 = h[k]?.getD 0
        · have hx' : (l[k]?.getD 0 != h[k]?.getD 0) = false := by simp [hx]
          have HF : Hid (beforeB (l.drop (k + 1)) (h.drop (k + 1)) = beforeB l h) := by show _ = _; rw [← HR.out, HD.out, HD'.out, beforeB, if_pos hx]
          clear hx
          go_wp2
          go_quiet (fail)
          go_wp2
          go_roundw
          case rel => exact ⟨k + 1, by omega, by omega, by go_num, HF.out, _, rfl⟩
          case measure => simp [intOf]; omega
        · have hx' : (l[k]?.getD 0 != h[k]?.getD 0) = true := by simp [hx]
          have HF : Hid (beforeB l h = decide (l[k]?.getD 0 < h[k]?.getD 0)) := by show _ = _; rw [← HR.out, HD.out, HD'.out, beforeB, if_neg hx]
          clear hx
          go_wp2
          go_quiet (fail)
          go_wp2
          go_quiet (fail)
          go_wp2
          go_ret
          exact ⟨ret_bool HF.out.symm, ex_drewN3 _ _ _ _⟩
      · have HF : Hid (beforeB l h = false) := by
          show _ = _; rw [← HR.out, List.drop_of_length_le (l := h) (by have := HH.out.1; omega)]; cases l.drop k <;> rfl
        go_wp2
        go_ret
        exact ⟨ret_bool (by rw [HF.out]; simp; omega), _, rfl⟩
    · have HF : Hid (beforeB l h = decide (k < m)) := by
        show _ = _
        rw [← HR.out, List.drop_of_length_le (l := l) (by have := HL.out.1; omega)]
        by_cases h2 : k < m
        · rw [drop_at h k (by have := HH.out.1; omega)]; simp [beforeB, h2]
        · rw [List.drop_of_length_le (by have := HH.out.1; omega)]; simp [beforeB, h2]
      have hnk : k = n := by omega
      subst hnk
      go_wp2
      go_ret
      exact ⟨ret_bool (by rw [HF.out]), _, rfl⟩

set_option maxHeartbeats 400000 in
theorem shorter_any (p : Option Addr) (n c : Nat) (l : List Int) (q : Option Addr) (m d : Nat) (h : List Int) (w : World) (hl : IntsAt w p n l) (hh : IntsAt w q m h) (hn : n ≤ 1000000) (hm : m ≤ 1000000) :
    Calls Try.prog 62 #[.slice p n c, .slice q m d] w fun e w' => e = .returned (.bool (shorterB l h)) ∧ ∃ nn, w' = w.drewN nn := by
  have HC := hid (before_any p n c l q m d h w hl hh hn hm)
  have h1 := hl.1
  have h2 := hh.1
  have HF := hid (show shorterB l h = (decide (n < m) || (decide (n = m) && beforeB l h)) by rw [h1, h2]; rfl)
  clear hl hh h1 h2
  by_cases a : n < m
  · go_enter Try.func62, Try.ntmps62
    go_wp2
    go_ret
    exact ⟨ret_bool (by rw [HF.out]; simp [a]), 0, rfl⟩
  · by_cases b : n = m
    · subst b
      go_enter Try.func62, Try.ntmps62
      go_wp2_with (go_at_call 104; refine HC.out.mono ?_; rintro e w' ⟨rfl, nn, rfl⟩)
      go_ret
      exact ⟨ret_bool (by rw [HF.out]; simp), _, rfl⟩
    · have b' : ((n : Int) == m) = false := by simp; omega
      go_enter Try.func62, Try.ntmps62
      go_wp2
      go_ret
      exact ⟨ret_bool (by rw [HF.out]; simp [a, b]), 0, rfl⟩

theorem below_of_drewN {w w' : World} (h : ∃ n, w' = w.drewN n) : Below w.heap.size w w' := by
  obtain ⟨n, rfl⟩ := h
  exact below_drewN (Below.refl _ _) n

set_option maxRecDepth 20000 in
set_option maxHeartbeats 1000000 in
theorem ints_any (p : Option Addr) (n c : Nat) (l : List Int) (q : Option Addr) (m d : Nat) (h : List Int) (w : World) (hl : IntsAt w p n l) (hh : IntsAt w q m h) (hn : n ≤ 1000000) (hm : m ≤ 1000000) :
    Calls Try.prog 28 #[.slice p n c, .slice q m d] w fun e w' => e = .returned (.bool (decide (l = h))) ∧ Below w.heap.size w w' := by
  have HL := hid hl
  have HH := hid hh
  clear hl hh
  by_cases hnm : n = m
  · subst hnm
    go_enter Try.func28, Try.ntmps28
    go_wp2
    go_loopw [5] (fun i wr => ∃ (k : Nat), k ≤ n ∧ i = .int .i64 k ∧ decide (l.drop k = h.drop k) = decide (l = h) ∧ Below w.heap.size w wr) (fun i _ => n - (intOf i).toNat)
    case atStart => exact ⟨0, Nat.zero_le _, rfl, rfl, Below.refl _ _⟩
    case round =>
      obtain ⟨k, hk, rfl, hr, hw⟩ := hrel
      have HR := hid hr
      clear hr
      by_cases h1 : k < n
      · obtain ⟨b1, o1, rfl, hb1, hc1⟩ := (HL.out.below hw).at h1
        obtain ⟨b2, o2, rfl, hb2, hc2⟩ := (HH.out.below hw).at h1
        have HD := hid (drop_at l k (by have := HL.out.1; omega))
        have HD' := hid (drop_at h k (by have := HH.out.1; omega))
        by_cases hx : l[k]?.getD 0 = h[k]?.getD 0
        · have hx' : (l[k]?.getD 0 != h[k]?.getD 0) = false := by simp [hx]
          have HF : Hid (decide (l.drop (k + 1) = h.drop (k + 1)) = decide (l = h)) := by show _ = _; rw [← HR.out, HD.out, HD'.out]; simp [hx]
          clear hx
          go_wp2
          go_quiet (fail)
          go_wp2
          go_roundw
          case rel => exact ⟨k + 1, by omega, by go_num, HF.out, below_drewN hw _⟩
          case measure => simp [intOf]; omega
        · have hx' : (l[k]?.getD 0 != h[k]?.getD 0) = true := by simp [hx]
          have HF : Hid (decide (l = h) = false) := by show _ = _; rw [← HR.out, HD.out, HD'.out]; simp [hx]
          clear hx
          go_wp2
          go_quiet (fail)
          go_wp2
          go_ret
          exact ⟨ret_bool HF.out.symm, below_drewN hw _⟩
      · have HF : Hid (decide (l = h) = true) := by
          show _ = _
          rw [← HR.out, List.drop_of_length_le (by have := HL.out.1; omega), List.drop_of_length_le (by have := HH.out.1; omega)]; rfl
        go_wp2
        go_ret
        exact ⟨ret_bool HF.out.symm, hw⟩
  · have b' : ((n : Int) != m) = true := by simp; omega
    have HF : Hid (decide (l = h) = false) := by
      show _ = _
      have h1 := HL.out.1; have h2 := HH.out.1
      simp only [decide_eq_false_iff_not]
      rintro rfl
      omega
    go_enter Try.func28, Try.ntmps28
    go_wp2
    go_ret
    exact ⟨ret_bool HF.out.symm, Below.refl _ _⟩
end Go.Proofs.Ytaioobhblfnlaaa
