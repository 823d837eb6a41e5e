/- Whether a programme is valid: how many truths, Fault of the reference, CheckProgramme of the program. No condition. -/
import Derived.Test.YtaioobhblfnlaaaB3
namespace Go.Proofs.Ytaioobhblfnlaaa
open Go.RowKit


set_option maxRecDepth 20000 in
set_option maxHeartbeats 2000000 in
theorem ordered_any (p : Prg) (lp : Option Addr) (ln lc : Nat) (tp : Option Addr) (tn tc : Nat) (rp : Option Addr) (rn rc : Nat) (w : World) (hp : PrgAt w p lp ln tp tn rp rn) (hn : tn ≤ 1000000) :
    Calls Try.prog 74 #[.agg #[.slice lp ln lc, .int .i64 p.reserve, .slice tp tn tc, .slice rp rn rc]] w fun e w' => e = .returned (.bool (allI offB 0 p.ts)) ∧ Below w.heap.size w w' := by
  have HT := hid hp.t
  clear hp
  go_enter Try.func74, Try.ntmps74
  go_wp2
  go_loopw [8] (fun i wr => ∃ k : Nat, k ≤ tn ∧ i = .int .i64 k ∧ allI offB k (p.ts.drop k) = allI offB 0 p.ts ∧ Below w.heap.size w wr) (fun i _ => tn - (intOf i).toNat)
  case atStart => exact ⟨0, by omega, rfl, rfl, (Below.refl _ _).alloc (Nat.le_refl _) _⟩
  case round =>
    obtain ⟨k, hk, rfl, hr, hb⟩ := hrel
    have HR := hid hr
    clear hr
    by_cases hlt : k < tn
    · obtain ⟨t, ht, b1, o1, rfl, hb1, hc0, hc1, hc2, hc3, hc4, hc5, hc6⟩ := (HT.out.below hb).tre hlt
      have HD := hid (drop_at' ht)
      clear ht
      have hb2 : Below w.heap.size w (wr.alloc (.cells #[.int .i64 t.kind, .int .i64 t.part, .int .i64 t.above, .int .i64 t.most, .int .i64 t.times, .int .i64 t.price, .int .i64 t.off] 87)) := hb.alloc hb.size _
      cases ho : inB t.off (-1) ((k : Int) - 1)
      · have HF : Hid (allI offB 0 p.ts = false) := by show _ = _; rw [← HR.out, HD.out, allI, offB, ho]; rfl
        go_wp2_with (go_at_call 69; refine (within_any _ _ _ _).mono ?_; rintro e w' ⟨rfl, rfl⟩)
        go_ret
        exact ⟨ret_bool HF.out.symm, hb2⟩
      · have HF : Hid (allI offB (k + 1) (p.ts.drop (k + 1)) = allI offB 0 p.ts) := by show _ = _; rw [← HR.out, HD.out, allI, offB, ho]; rfl
        go_wp2_with (go_at_call 69; refine (within_any _ _ _ _).mono ?_; rintro e w' ⟨rfl, rfl⟩)
        go_roundw
        case rel => exact ⟨k + 1, by omega, by go_num, HF.out, hb2⟩
        case measure => simp [intOf]; omega
    · have HF : Hid (allI offB 0 p.ts = true) := by show _ = _; rw [← HR.out, List.drop_of_length_le (by have := HT.out.1; omega)]; rfl
      go_wp2
      go_ret
      exact ⟨ret_bool HF.out.symm, hb⟩

theorem manyG_bd : ∀ (l : List Rng) (c n : Int), (∀ r ∈ l, 1 ≤ r.cnt) → 1 ≤ n → n ≤ c → 1 ≤ manyG c n l ∧ manyG c n l ≤ c
  | [], _, _, _, h1, h2 => ⟨h1, h2⟩
  | r :: l, c, n, h, h1, h2 => by
    have hr := h r (by simp)
    have := le_mul (show 0 ≤ n by omega) hr
    have := minI_spec c (n * r.cnt)
    exact manyG_bd l c _ (fun q hq => h q (by simp [hq])) (by omega) (by omega)
def LossOk (l : List Rng) : Prop := ∀ r ∈ l, 0 ≤ r.lo ∧ r.lo ≤ r.hi ∧ r.hi ≤ 1000
theorem LossOk.cnt {l : List Rng} (h : LossOk l) : ∀ r ∈ l, 1 ≤ r.cnt := fun r hr => by have := h r hr; unfold Rng.cnt; omega
theorem LossOk.of {l : List Rng} (h : l.all lossB = true) : LossOk l := fun r hr => by
  have := List.all_eq_true.1 h r hr
  rwa [lossB, Rng.of_iff] at this
theorem many_min {l : List Rng} (h : LossOk l) (c : Int) (hc : 1 ≤ c) : manyG c 1 l = minI c (prodL l) := by
  have h1 := many_prod c hc l 1 (Int.le_refl _) h.cnt
  rwa [Int.one_mul, show minI c 1 = 1 by unfold minI; split <;> omega] at h1

set_option maxRecDepth 20000 in
set_option maxHeartbeats 2000000 in
theorem many_any (p : Prg) (lp : Option Addr) (ln lc : Nat) (tp : Option Addr) (tn tc : Nat) (rp : Option Addr) (rn rc : Nat) (w : World) (hp : PrgAt w p lp ln tp tn rp rn) (hn : ln ≤ 1000000) (hl : LossOk p.losses) :
    Calls Try.prog 57 #[.agg #[.slice lp ln lc, .int .i64 p.reserve, .slice tp tn tc, .slice rp rn rc]] w fun e w' => e = .returned (.int .i64 (minI 2000 (prodL p.losses))) ∧ Below w.heap.size w w' := by
  have HT := hid hp.l
  have HL := hid hl
  rw [← many_min hl 2000 (by omega)]
  clear hp hl
  have H0 : Hid (Boxed1 w #[.slice lp ln lc, .int .i64 p.reserve, .slice tp tn tc, .slice rp rn rc] 26 (w.alloc (.cells #[.slice lp ln lc, .int .i64 p.reserve, .slice tp tn tc, .slice rp rn rc] 26))) := hid (Boxed1.start _ _ _)
  go_enter Try.func57, Try.ntmps57
  go_wp2
  go_loopw [3, 4] (fun m i wr => ∃ (k : Nat) (n : Int), k ≤ ln ∧ m = .int .i64 n ∧ i = .int .i64 k ∧ (1 ≤ n ∧ n ≤ 2000) ∧ manyG 2000 n (p.losses.drop k) = manyG 2000 1 p.losses ∧ Boxed1 w #[.slice lp ln lc, .int .i64 p.reserve, .slice tp tn tc, .slice rp rn rc] 26 wr) (fun _ i _ => ln - (intOf i).toNat)
  case atStart => exact ⟨0, 1, by omega, rfl, rfl, by omega, rfl, H0.out⟩
  case round =>
    obtain ⟨k, n, hk, rfl, rfl, hn1, hr, hb⟩ := hrel
    have HR := hid hr
    have HB := hid hb
    have e0 := hb.cell 0 (v := .slice lp ln lc) rfl
    clear hr
    by_cases hlt : k < ln
    · obtain ⟨r, ht, b1, o1, rfl, hb1, hc0, hc1⟩ := (HT.out.below hb.below).rng hlt
      have HD := hid (drop_at' ht)
      have hrl := HL.out r (List.mem_of_getElem? ht)
      clear ht hb
      have hc : 1 ≤ r.cnt ∧ r.cnt ≤ 1001 := by unfold Rng.cnt; omega
      have hm0 : n ≤ n * r.cnt := le_mul (by omega) hc.1
      have hm1 : n * r.cnt ≤ 2000 * 1001 := Int.mul_le_mul (by omega) hc.2 (by omega) (by omega)
      have HS := hid (fun W (hW : Below wr.heap.size wr W) => HB.out.step hW)
      by_cases hlt2 : n * r.cnt < 2000
      · have HF : Hid (manyG 2000 (n * r.cnt) (p.losses.drop (k + 1)) = manyG 2000 1 p.losses) := by show _ = _; rw [← HR.out, HD.out, manyG, minI, if_pos hlt2]
        go_wp2_with fail
        refine (count_any r _ (by omega) (by omega) (by omega) (by omega)).mono ?_
        rintro e w1 ⟨rfl, hb2⟩
        go_wp2_with fail
        go_roundw
        case rel => exact ⟨k + 1, n * r.cnt, by omega, rfl, by go_num, by omega, HF.out, HS.out _ hb2⟩
        case measure => simp [intOf]; omega
      · have HF : Hid (manyG 2000 2000 (p.losses.drop (k + 1)) = manyG 2000 1 p.losses) := by show _ = _; rw [← HR.out, HD.out, manyG, minI, if_neg hlt2]
        go_wp2_with fail
        refine (count_any r _ (by omega) (by omega) (by omega) (by omega)).mono ?_
        rintro e w1 ⟨rfl, hb2⟩
        go_wp2_with fail
        go_roundw
        case rel => exact ⟨k + 1, 2000, by omega, rfl, by go_num, by omega, HF.out, HS.out _ hb2⟩
        case measure => simp [intOf]; omega
    · have HF : Hid (n = manyG 2000 1 p.losses) := by show _ = _; rw [← HR.out, List.drop_of_length_le (by have := HT.out.1; omega)]; rfl
      go_wp2_with fail
      go_ret
      exact ⟨ret_int HF.out, HB.out.below⟩
end Go.Proofs.Ytaioobhblfnlaaa
