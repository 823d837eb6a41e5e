/- Package treaty: what a treaty keeps; what the ranges of Bounds, Net and Kept are of. No condition but small numbers. -/
import Derived.Test.YtaioobhblfnlaaaP6
namespace Go.Proofs.Ytaioobhblfnlaaa
open Go.RowKit

attribute [local go_sem] Oper.semAt_some

set_option maxRecDepth 20000 in
set_option maxHeartbeats 1000000 in
theorem kept84_raw (f : Nat → Int) (kp : Int) (w : World) : Calls Try.prog 84 #[.agg #[.int .i64 (f 0), .int .i64 (f 1), .int .i64 (f 2), .int .i64 (f 3), .int .i64 (f 4), .int .i64 kp]] w fun e w' => e = .returned (.int .i64 kp) ∧ Below w.heap.size w w' := by
  go_enter Try.func84, Try.ntmps84
  go_wp2_with fail
  go_ret
  exact ⟨rfl, (Below.refl _ _).alloc (Nat.le_refl _) _⟩
theorem kept84_any (f : Nat → Int) (kp : Int) (w : World) : Calls Try.prog 84 #[.agg (resC f kp)] w fun e w' => e = .returned (.int .i64 kp) ∧ Below w.heap.size w w' := kept84_raw f kp w

set_option maxRecDepth 20000 in
set_option maxHeartbeats 1000000 in
theorem kept118_raw (f : Nat → Int) (kp : Int) (w : World) : Calls Try.prog 118 #[.agg #[.int .i64 (f 0), .int .i64 (f 1), .int .i64 (f 2), .int .i64 (f 3), .int .i64 (f 4), .int .i64 kp]] w fun e w' => e = .returned (.int .i64 kp) ∧ Below w.heap.size w w' := by
  go_enter Try.func118, Try.ntmps118
  go_wp2_with fail
  go_ret
  exact ⟨rfl, (Below.refl _ _).alloc (Nat.le_refl _) _⟩
theorem kept118_any (f : Nat → Int) (kp : Int) (w : World) : Calls Try.prog 118 #[.agg (resC f kp)] w fun e w' => e = .returned (.int .i64 kp) ∧ Below w.heap.size w w' := kept118_raw f kp w

set_option maxRecDepth 20000 in
set_option maxHeartbeats 1000000 in
theorem pays81_raw (f : Nat → Int) (kp : Int) (k b1 : Nat) (w : World) (hk : k < 5) (hc : w.cell? ⟨b1, 0, none⟩ = some (.int .i64 (k : Int))) : Calls Try.prog 81 #[.agg #[.int .i64 (f 0), .int .i64 (f 1), .int .i64 (f 2), .int .i64 (f 3), .int .i64 (f 4), .int .i64 kp], .pointer (some ⟨b1, 0, none⟩)] w fun e w' => e = .returned (.int .i64 (f k)) ∧ Below w.heap.size w w' := by
  have hget := @resC_get f kp k hk
  unfold resC at hget
  have HX : Hid (BoxIs w.heap.size #[.int .i64 (f 0), .int .i64 (f 1), .int .i64 (f 2), .int .i64 (f 3), .int .i64 (f 4), .int .i64 kp] (w.alloc (.cells #[.int .i64 (f 0), .int .i64 (f 1), .int .i64 (f 2), .int .i64 (f 3), .int .i64 (f 4), .int .i64 kp] 118))) := hid (BoxIs.start _ _ _)
  have c1 := (HX.out.2 k _ hget).1
  have c0 : (w.alloc (.cells #[.int .i64 (f 0), .int .i64 (f 1), .int .i64 (f 2), .int .i64 (f 3), .int .i64 (f 4), .int .i64 kp] 118)).cell? ⟨b1, 0, none⟩ = some (.int .i64 (k : Int)) := (((Below.refl _ _).alloc (Nat.le_refl _) _ : Below w.heap.size w (w.alloc (.cells #[.int .i64 (f 0), .int .i64 (f 1), .int .i64 (f 2), .int .i64 (f 3), .int .i64 (f 4), .int .i64 kp] 118))).cell (p := ⟨b1, 0, none⟩) (World.block_lt_of_cell? _ _ hc)).trans hc
  clear hc hget HX
  go_enter Try.func81, Try.ntmps81
  go_wp2_with fail
  go_ret
  exact ⟨rfl, (Below.refl _ _).alloc (Nat.le_refl _) _⟩
theorem pays81_any (f : Nat → Int) (kp : Int) (k b1 : Nat) (w : World) (hk : k < 5) (hc : w.cell? ⟨b1, 0, none⟩ = some (.int .i64 (k : Int))) : Calls Try.prog 81 #[.agg (resC f kp), .pointer (some ⟨b1, 0, none⟩)] w fun e w' => e = .returned (.int .i64 (f k)) ∧ Below w.heap.size w w' := pays81_raw f kp k b1 w hk hc

set_option maxRecDepth 40000 in
set_option maxHeartbeats 4000000 in
theorem keeps83_raw (ts : List Tre) (f : Nat → Int) (kp : Int) (j bw : Nat) (tp : Option Addr) (tn tc : Nat) (w : World) (hj : j < 5) (htn : tn ≤ 5) (hf : ∀ i, 0 ≤ f i ∧ f i ≤ 100000) (hc : w.cell? ⟨bw, 2, none⟩ = some (.slice tp tn tc)) (ht : RowsAt cellsT 7 w tp tn ts) :
    Calls Try.prog 83 #[.pointer (some ⟨bw, 0, none⟩), .agg #[.int .i64 (f 0), .int .i64 (f 1), .int .i64 (f 2), .int .i64 (f 3), .int .i64 (f 4), .int .i64 kp], .int .i64 (j : Int)] w fun e w' => e = .returned (.int .i64 (keepsF ts f j)) ∧ Below w.heap.size w w' := by
  have HT := hid ht
  have HF := hid hf
  have hget := @resC_get f kp j hj
  unfold resC at hget
  have HX : Hid (Boxed1 w #[.int .i64 (f 0), .int .i64 (f 1), .int .i64 (f 2), .int .i64 (f 3), .int .i64 (f 4), .int .i64 kp] 118 (w.alloc (.cells #[.int .i64 (f 0), .int .i64 (f 1), .int .i64 (f 2), .int .i64 (f 3), .int .i64 (f 4), .int .i64 kp] 118))) := hid (Boxed1.start _ _ _)
  have HGET := hid (fun i (hi : i < 5) => (show (#[.int .i64 (f 0), .int .i64 (f 1), .int .i64 (f 2), .int .i64 (f 3), .int .i64 (f 4), .int .i64 kp] : Array Value)[i]? = some (Value.int .i64 (f i)) from @resC_get f kp i hi))
  have c1 := HX.out.cell j hget
  have c2 : (w.alloc (.cells #[.int .i64 (f 0), .int .i64 (f 1), .int .i64 (f 2), .int .i64 (f 3), .int .i64 (f 4), .int .i64 kp] 118)).cell? ⟨bw, 2, none⟩ = some (.slice tp tn tc) := (((Below.refl _ _).alloc (Nat.le_refl _) _ : Below w.heap.size w (w.alloc (.cells #[.int .i64 (f 0), .int .i64 (f 1), .int .i64 (f 2), .int .i64 (f 3), .int .i64 (f 4), .int .i64 kp] 118))).cell (p := ⟨bw, 2, none⟩) (World.block_lt_of_cell? _ _ hc)).trans hc
  have HTN := hid ht.1
  have HLEN : Hid (tn ≤ 5) := hid htn
  clear hc hget ht hf
  go_enter Try.func83, Try.ntmps83
  go_wp2_with fail
  clear c1 c2
  go_loopw [7, 20] (fun u i wr => ∃ (k : Nat) (m : Int), k ≤ tn ∧ i = .int .i64 k ∧ u = .int .i64 m ∧ subI f j k (ts.drop k) m = subI f j 0 ts (f j) ∧ (-100000 * (k : Int) ≤ m ∧ m ≤ 100000) ∧ Boxed1 w #[.int .i64 (f 0), .int .i64 (f 1), .int .i64 (f 2), .int .i64 (f 3), .int .i64 (f 4), .int .i64 kp] 118 wr) (fun _ i _ => tn - (intOf i).toNat)
  case atStart => exact ⟨0, f j, by omega, rfl, rfl, by simp, by have := HF.out j; omega, HX.out⟩
  case round =>
    clear HX
    obtain ⟨k, m, hk, rfl, rfl, hr, hm, hx⟩ := hrel
    have HR := hid hr; have HX := hid hx
    clear hr hx
    by_cases hlt : k < tn
    · obtain ⟨t, ht, b1, o1, rfl, hb1, d0, d1, d2, d3, d4, d5, d6⟩ := (HT.out.below HX.out.below).tre hlt
      have HD : Hid (ts.drop k = t :: ts.drop (k + 1)) := hid (by rw [List.drop_eq_getElem_cons (by have := HTN.out; omega)]; rw [List.getElem?_eq_getElem (by have := HTN.out; omega)] at ht; cases ht; rfl)
      have hk5 : k < 5 := by have := HLEN.out; omega
      have hfk := HF.out k
      have HXA := hid (HX.out.alloc (.cells #[.int .i64 t.kind, .int .i64 t.part, .int .i64 t.above, .int .i64 t.most, .int .i64 t.times, .int .i64 t.price, .int .i64 t.off] 87))
      have c1 := HXA.out.cell k (HGET.out k hk5)
      have hs : IntKind.i64.wrap (m - f k) = m - f k := IntWalk.i64_in _ (by have := HLEN.out; omega)
      by_cases ho : t.off = (j : Int)
      · have HRN : Hid (subI f j (k + 1) (ts.drop (k + 1)) (m - f k) = subI f j 0 ts (f j)) := hid (by rw [← HR.out, HD.out, subI, if_pos ho])
        have hob : (t.off == (j : Int)) = true := by simpa using ho
        clear ht ho
        go_wp2_with fail
        go_roundw
        case rel => exact ⟨k + 1, m - f k, by omega, by go_num, rfl, HRN.out, by omega, HXA.out⟩
        case measure => simp [intOf]; omega
      · have HRN : Hid (subI f j (k + 1) (ts.drop (k + 1)) m = subI f j 0 ts (f j)) := hid (by rw [← HR.out, HD.out, subI, if_neg ho])
        have hob : (t.off == (j : Int)) = false := by simpa using ho
        clear ht ho
        go_wp2_with fail
        go_roundw
        case rel => exact ⟨k + 1, m, by omega, by go_num, rfl, HRN.out, by omega, HXA.out⟩
        case measure => simp [intOf]; omega
    · have hkn : ts.drop k = [] := List.drop_of_length_le (by have := HTN.out; omega)
      have HRN : Hid (m = keepsF ts f j) := hid (by have h := HR.out; rw [hkn, subI] at h; exact h)
      clear hkn
      go_wp2_with fail
      go_ret
      exact ⟨ret_int HRN.out, HX.out.below⟩

set_option maxRecDepth 20000 in
set_option maxHeartbeats 2000000 in
theorem keeps82_raw (ts : List Tre) (f : Nat → Int) (kp : Int) (k bw b1 b2 : Nat) (tp : Option Addr) (tn tc : Nat) (w : World) (hk : k < 5) (htn : tn ≤ 5) (hf : ∀ i, 0 ≤ f i ∧ f i ≤ 100000) (h1 : w.cell? ⟨b1, 0, none⟩ = some (.pointer (some ⟨bw, 0, none⟩))) (h2 : w.cell? ⟨b2, 0, none⟩ = some (.int .i64 (k : Int))) (hc : w.cell? ⟨bw, 2, none⟩ = some (.slice tp tn tc)) (ht : RowsAt cellsT 7 w tp tn ts) :
    Calls Try.prog 82 #[.agg #[.int .i64 (f 0), .int .i64 (f 1), .int .i64 (f 2), .int .i64 (f 3), .int .i64 (f 4), .int .i64 kp], .pointer (some ⟨b1, 0, none⟩), .pointer (some ⟨b2, 0, none⟩)] w fun e w' => e = .returned (.int .i64 (keepsF ts f k)) ∧ Below w.heap.size w w' := by
  have HK := hid (fun W (hW : Below w.heap.size w W) => keeps83_raw ts f kp k bw tp tn tc W hk htn hf ((hW.cell (p := ⟨bw, 2, none⟩) (World.block_lt_of_cell? _ _ hc)).trans hc) (ht.below hW))
  have HX : Hid (Boxed1 w #[.int .i64 (f 0), .int .i64 (f 1), .int .i64 (f 2), .int .i64 (f 3), .int .i64 (f 4), .int .i64 kp] 118 (w.alloc (.cells #[.int .i64 (f 0), .int .i64 (f 1), .int .i64 (f 2), .int .i64 (f 3), .int .i64 (f 4), .int .i64 kp] 118))) := hid (Boxed1.start _ _ _)
  have hb : Below w.heap.size w (w.alloc (.cells #[.int .i64 (f 0), .int .i64 (f 1), .int .i64 (f 2), .int .i64 (f 3), .int .i64 (f 4), .int .i64 kp] 118)) := (Below.refl _ _).alloc (Nat.le_refl _) _
  have c1 := (hb.cell (p := ⟨b1, 0, none⟩) (World.block_lt_of_cell? _ _ h1)).trans h1
  have c2 := (hb.cell (p := ⟨b2, 0, none⟩) (World.block_lt_of_cell? _ _ h2)).trans h2
  have x0 := HX.out.cell 0 (v := .int .i64 (f 0)) rfl
  have x1 := HX.out.cell 1 (v := .int .i64 (f 1)) rfl
  have x2 := HX.out.cell 2 (v := .int .i64 (f 2)) rfl
  have x3 := HX.out.cell 3 (v := .int .i64 (f 3)) rfl
  have x4 := HX.out.cell 4 (v := .int .i64 (f 4)) rfl
  have x5 := HX.out.cell 5 (v := .int .i64 kp) rfl
  clear h1 h2 hc ht hb
  go_enter Try.func82, Try.ntmps82
  go_wp2_with fail
  refine (HK.out _ ((Below.refl _ _).alloc (Nat.le_refl _) _)).mono ?_
  rintro e w1 ⟨rfl, hb⟩
  have HB := hid (HX.out.step (hb.mono (Nat.le_refl _)))
  clear hb c1 c2 x0 x1 x2 x3 x4 x5
  go_wp2_with fail
  go_ret
  exact ⟨rfl, HB.out.below⟩
end Go.Proofs.Ytaioobhblfnlaaa
