/- The reference: wider ranges, prices, what a treaty keeps, whether a list has one number of each loss, the truth with a number. No condition but small numbers. -/
import Derived.Test.YtaioobhblfnlaaaB7
namespace Go.Proofs.Ytaioobhblfnlaaa
open Go.RowKit

set_option maxRecDepth 20000 in
set_option maxHeartbeats 1000000 in
theorem widerE_any (r : Rng) (n : Int) (w : World) : Calls Try.prog 87 #[.agg #[.int .i64 r.lo, .int .i64 r.hi], .int .i64 n] w fun e w' => e = .returned (.agg #[.int .i64 (widerR r n).lo, .int .i64 (widerR r n).hi]) ∧ Below w.heap.size w w' := by
  obtain ⟨W0, hW0⟩ : ∃ V, (w.alloc (.cells #[.int .i64 r.lo, .int .i64 r.hi] 55)).alloc (.cells #[.int .i64 0, .int .i64 0] 55) = V := ⟨_, rfl⟩
  have hb : Boxed1 w #[.int .i64 r.lo, .int .i64 r.hi] 55 W0 := by rw [← hW0]; exact (Boxed1.start _ _ _).alloc _
  have hx : BoxIs (w.heap.size + 1) #[.int .i64 0, .int .i64 0] W0 := by
    have h := BoxIs.start (w.alloc (.cells #[.int .i64 r.lo, .int .i64 r.hi] 55)) #[.int .i64 0, .int .i64 0] 55
    rw [World.size_alloc, hW0] at h; exact h
  have e0 := hb.cell 0 rfl; have e1 := hb.cell 1 rfl
  have x0 := (hx.2 0 (.int .i64 0) rfl).1; have x1 := (hx.2 1 (.int .i64 0) rfl).1; have f0 := (hx.2 0 (.int .i64 0) rfl).2; have f1 := (hx.2 1 (.int .i64 0) rfl).2
  have HB := hid hb.below
  have HX := hid hx
  clear hb hx
  by_cases h1 : n < r.lo
  · by_cases h2 : r.hi < n
    · skip
      have HW : Hid (widerR r n = ⟨n, n⟩) := by show _ = _; rw [widerR, minI, if_pos h1, if_pos h2]
      have HR := hid ((HX.out.put (j := 0) (.int .i64 n)).put (j := 1) (.int .i64 n))
      go_enter Try.func87, Try.ntmps87
      go_wp2_with fail
      have y0 := (HR.out.2 0 (.int .i64 n) rfl).1; have y1 := (HR.out.2 1 (.int .i64 n) rfl).1
      refine bodyPost_ret (v := .agg #[.int .i64 n, .int .i64 n]) (by simp [results, Try.f87, go_sem, y0, y1]) rfl ?_
      exact ⟨by rw [HW.out], (HB.out.setCell (p := ⟨w.heap.size + 1, 0, none⟩) (by show w.heap.size ≤ w.heap.size + 1; omega) _).setCell (p := ⟨w.heap.size + 1, 1, none⟩) (by show w.heap.size ≤ w.heap.size + 1; omega) _⟩
    · skip
      have HW : Hid (widerR r n = ⟨n, r.hi⟩) := by show _ = _; rw [widerR, minI, if_pos h1, if_neg h2]
      have HR := hid ((HX.out.put (j := 0) (.int .i64 n)).put (j := 1) (.int .i64 r.hi))
      go_enter Try.func87, Try.ntmps87
      go_wp2_with fail
      have y0 := (HR.out.2 0 (.int .i64 n) rfl).1; have y1 := (HR.out.2 1 (.int .i64 r.hi) rfl).1
      refine bodyPost_ret (v := .agg #[.int .i64 n, .int .i64 r.hi]) (by simp [results, Try.f87, go_sem, y0, y1]) rfl ?_
      exact ⟨by rw [HW.out], (HB.out.setCell (p := ⟨w.heap.size + 1, 0, none⟩) (by show w.heap.size ≤ w.heap.size + 1; omega) _).setCell (p := ⟨w.heap.size + 1, 1, none⟩) (by show w.heap.size ≤ w.heap.size + 1; omega) _⟩
  · by_cases h2 : r.hi < n
    · skip
      have HW : Hid (widerR r n = ⟨r.lo, n⟩) := by show _ = _; rw [widerR, minI, if_neg h1, if_pos h2]
      have HR := hid ((HX.out.put (j := 0) (.int .i64 r.lo)).put (j := 1) (.int .i64 n))
      go_enter Try.func87, Try.ntmps87
      go_wp2_with fail
      have y0 := (HR.out.2 0 (.int .i64 r.lo) rfl).1; have y1 := (HR.out.2 1 (.int .i64 n) rfl).1
      refine bodyPost_ret (v := .agg #[.int .i64 r.lo, .int .i64 n]) (by simp [results, Try.f87, go_sem, y0, y1]) rfl ?_
      exact ⟨by rw [HW.out], (HB.out.setCell (p := ⟨w.heap.size + 1, 0, none⟩) (by show w.heap.size ≤ w.heap.size + 1; omega) _).setCell (p := ⟨w.heap.size + 1, 1, none⟩) (by show w.heap.size ≤ w.heap.size + 1; omega) _⟩
    · skip
      have HW : Hid (widerR r n = ⟨r.lo, r.hi⟩) := by show _ = _; rw [widerR, minI, if_neg h1, if_neg h2]
      have HR := hid ((HX.out.put (j := 0) (.int .i64 r.lo)).put (j := 1) (.int .i64 r.hi))
      go_enter Try.func87, Try.ntmps87
      go_wp2_with fail
      have y0 := (HR.out.2 0 (.int .i64 r.lo) rfl).1; have y1 := (HR.out.2 1 (.int .i64 r.hi) rfl).1
      refine bodyPost_ret (v := .agg #[.int .i64 r.lo, .int .i64 r.hi]) (by simp [results, Try.f87, go_sem, y0, y1]) rfl ?_
      exact ⟨by rw [HW.out], (HB.out.setCell (p := ⟨w.heap.size + 1, 0, none⟩) (by show w.heap.size ≤ w.heap.size + 1; omega) _).setCell (p := ⟨w.heap.size + 1, 1, none⟩) (by show w.heap.size ≤ w.heap.size + 1; omega) _⟩

/-- The sum of prices of those treaties that f picks. -/
def priceG (f : Nat → Bool) : Nat → List Tre → Int
  | _, [] => 0
  | k, t :: r => (if f k = true then t.price else 0) + priceG f (k + 1) r
def PriceOk (l : List Tre) : Prop := ∀ t ∈ l, 0 ≤ t.price ∧ t.price ≤ 1000

set_option maxRecDepth 20000 in
set_option maxHeartbeats 2000000 in
theorem price_any (p : Prg) (lp : Option Addr) (ln lc : Nat) (tp : Option Addr) (tn tc : Nat) (rp : Option Addr) (rn rc : Nat) (m : Int) (w : World) (hp : PrgAt w p lp ln tp tn rp rn) (hn : tn ≤ 5) (h0 : 0 ≤ m) (hm : m < 4096) (hpr : PriceOk p.ts) :
    Calls Try.prog 39 #[.agg #[.slice lp ln lc, .int .i64 p.reserve, .slice tp tn tc, .slice rp rn rc], .int .i64 m] w fun e w' => e = .returned (.int .i64 (priceG (bitB m) 0 p.ts)) ∧ Below w.heap.size w w' := by
  have HT := hid hp.t
  have HPR := hid hpr
  clear hp hpr
  have H0 : Hid (Boxed1 w #[.slice lp ln lc, .int .i64 p.reserve, .slice tp tn tc, .slice rp rn rc] 26 (w.alloc (.cells #[.slice lp ln lc, .int .i64 p.reserve, .slice tp tn tc, .slice rp rn rc] 26))) := hid (Boxed1.start _ _ _)
  go_enter Try.func39, Try.ntmps39
  go_wp2
  go_loopw [5, 6] (fun s i wr => ∃ (k : Nat) (n : Int), k ≤ tn ∧ s = .int .i64 n ∧ i = .int .i64 k ∧ (0 ≤ n ∧ n ≤ 1000 * k) ∧ n + priceG (bitB m) k (p.ts.drop k) = priceG (bitB m) 0 p.ts ∧ Boxed1 w #[.slice lp ln lc, .int .i64 p.reserve, .slice tp tn tc, .slice rp rn rc] 26 wr) (fun _ i _ => tn - (intOf i).toNat)
  case atStart => exact ⟨0, 0, by omega, rfl, rfl, by omega, by rw [Int.zero_add]; rfl, H0.out⟩
  case round =>
    obtain ⟨k, n, hk, rfl, rfl, hn1, hr, hb⟩ := hrel
    have HR := hid hr
    have HB := hid hb
    have e2 := hb.cell 2 (v := .slice tp tn tc) rfl
    clear hr
    by_cases hlt : k < tn
    · obtain ⟨t, ht, b1, o1, rfl, hb1, hc0, hc1, hc2, hc3, hc4, hc5, hc6⟩ := (HT.out.below hb.below).tre hlt
      have HD := hid (drop_at' ht)
      have hpb := HPR.out t (List.mem_of_getElem? ht)
      clear ht hb
      have hcv : IntKind.u64.wrap (k : Int) = (k : Int) := by rw [IntKind.wrap_u64]; omega
      have hdz : 0 ≤ m / 2 ^ k := Int.ediv_nonneg h0 (by exact_mod_cast Nat.zero_le _)
      have hdl : m / 2 ^ k < 4096 := by
        have : m / 2 ^ k ≤ m := Int.ediv_le_self _ h0
        omega
      have hbt : bitB m k = (m / 2 ^ k % 2 == 1) := rfl
      have hmd : (m / 2 ^ k).tmod 2 = m / 2 ^ k % 2 := Int.tmod_eq_emod_of_nonneg hdz
      cases hbit : bitB m k
      · have HF : Hid (n + priceG (bitB m) (k + 1) (p.ts.drop (k + 1)) = priceG (bitB m) 0 p.ts) := by show _ = _; rw [← HR.out, HD.out, priceG, hbit]; simp
        have hbe : (m / 2 ^ k % 2 == 1) = false := by rw [← hbt, hbit]
        clear hbit hbt
        go_wp2_with fail
        go_roundw
        case rel => exact ⟨k + 1, n, by omega, rfl, by go_num, by omega, HF.out, HB.out⟩
        case measure => simp [intOf]; omega
      · have HF : Hid (n + t.price + priceG (bitB m) (k + 1) (p.ts.drop (k + 1)) = priceG (bitB m) 0 p.ts) := by show _ = _; rw [← HR.out, HD.out, priceG, hbit]; simp; omega
        have hbe : (m / 2 ^ k % 2 == 1) = true := by rw [← hbt, hbit]
        clear hbit hbt
        go_wp2_with fail
        go_roundw
        case rel => exact ⟨k + 1, n + t.price, by omega, rfl, by go_num, by omega, HF.out, HB.out⟩
        case measure => simp [intOf]; omega
    · have HF : Hid (n = priceG (bitB m) 0 p.ts) := by show _ = _; rw [← HR.out, List.drop_of_length_le (by have := HT.out.1; omega), priceG]; omega
      go_wp2_with fail
      go_ret
      exact ⟨ret_int HF.out, HB.out.below⟩

/-- f as a list of n numbers. -/
def ofF (f : Nat → Int) (n : Nat) : List Int := (List.range n).map f
theorem ofF_len (f : Nat → Int) (n : Nat) : (ofF f n).length = n := by simp [ofF]
theorem ofF_get (f : Nat → Int) {n k : Nat} (h : k < n) : (ofF f n)[k]? = some (f k) := by simp [ofF, h]
theorem ofF_at (f : Nat → Int) {n k : Nat} (h : k < n) : (ofF f n)[k]?.getD 0 = f k := by rw [ofF_get f h]; rfl
theorem ofF_set (f : Nat → Int) {n k : Nat} (h : k < n) (v : Int) : (ofF f n).set k v = ofF (updI f k v) n := by
  apply List.ext_getElem?
  intro i
  rw [List.getElem?_set]
  by_cases e : k = i
  · subst e
    rw [if_pos rfl, if_pos (by simpa [ofF] using h), ofF_get _ h, updI_same]
  · rw [if_neg e]
    by_cases hi : i < n
    · rw [ofF_get _ hi, ofF_get _ hi, updI_ne _ _ (by omega)]
    · rw [List.getElem?_eq_none (by simp [ofF]; omega), List.getElem?_eq_none (by simp [ofF]; omega)]
theorem ofF_zero (n : Nat) : List.replicate n (0 : Int) = ofF zeroF n := by
  apply List.ext_getElem?
  intro i
  by_cases hi : i < n
  · rw [ofF_get _ hi, List.getElem?_replicate, if_pos hi]; rfl
  · rw [List.getElem?_eq_none (by simp; omega), List.getElem?_eq_none (by simp [ofF]; omega)]
theorem ofF_ext {f g : Nat → Int} {n : Nat} (h : ∀ i, i < n → f i = g i) : ofF f n = ofF g n := List.map_congr_left fun i hi => h i (List.mem_range.1 hi)
/-- What is left of n when those who have a number j took their part. -/
def subI (f : Nat → Int) (j : Int) : Nat → List Tre → Int → Int
  | _, [], n => n
  | k, t :: r, n => subI f j (k + 1) r (if t.off = j then n - f k else n)
def keepsF (ts : List Tre) (f : Nat → Int) (j : Nat) : Int := subI f j 0 ts (f j)

set_option maxRecDepth 20000 in
set_option maxHeartbeats 2000000 in
theorem keepsR_any (p : Prg) (lp : Option Addr) (ln lc : Nat) (tp : Option Addr) (tn tc : Nat) (rp : Option Addr) (rn rc : Nat) (q : Option Addr) (c : Nat) (f : Nat → Int) (j : Nat) (w : World) (hp : PrgAt w p lp ln tp tn rp rn) (hn : tn ≤ 5) (hj : j < tn) (hl : IntsAt w q tn (ofF f tn)) (hf : ∀ i, 0 ≤ f i ∧ f i ≤ 100000) :
    Calls Try.prog 88 #[.agg #[.slice lp ln lc, .int .i64 p.reserve, .slice tp tn tc, .slice rp rn rc], .slice q tn c, .int .i64 (j : Int)] w fun e w' => e = .returned (.int .i64 (keepsF p.ts f j)) ∧ Below w.heap.size w w' := by
  have HT := hid hp.t
  have HF := hid hf
  have HL := hid hl
  clear hp hf
  have H0 : Hid (Boxed1 w #[.slice lp ln lc, .int .i64 p.reserve, .slice tp tn tc, .slice rp rn rc] 26 (w.alloc (.cells #[.slice lp ln lc, .int .i64 p.reserve, .slice tp tn tc, .slice rp rn rc] 26))) := hid (Boxed1.start _ _ _)
  obtain ⟨b1, o1, rfl, hb1, hc⟩ := (hl.below H0.out.below).at hj
  rw [ofF_at f hj] at hc
  have hfj := HF.out j
  clear hl
  go_enter Try.func88, Try.ntmps88
  go_wp2
  go_loopw [7, 8] (fun s i wr => ∃ (k : Nat) (n : Int), k ≤ tn ∧ s = .int .i64 n ∧ i = .int .i64 k ∧ (-100000 * k ≤ n ∧ n ≤ 100000) ∧ subI f j k (p.ts.drop k) n = keepsF p.ts f j ∧ Boxed1 w #[.slice lp ln lc, .int .i64 p.reserve, .slice tp tn tc, .slice rp rn rc] 26 wr) (fun _ i _ => tn - (intOf i).toNat)
  case atStart => exact ⟨0, f j, by omega, rfl, rfl, by omega, rfl, H0.out⟩
  case round =>
    clear hc
    obtain ⟨k, n, hk, rfl, rfl, hn1, hr, hb⟩ := hrel
    have HR := hid hr
    have HB := hid hb
    have e2 := hb.cell 2 (v := .slice tp tn tc) rfl
    clear hr
    by_cases hlt : k < tn
    · obtain ⟨t, ht, b2, o2, rfl, hb2, hc0, hc1, hc2, hc3, hc4, hc5, hc6⟩ := (HT.out.below hb.below).tre hlt
      obtain ⟨b3, o3, e3, _, hd⟩ := (HL.out.below hb.below).at hlt
      cases e3
      rw [ofF_at f hlt] at hd
      have hfk := HF.out k
      have HD := hid (drop_at' ht)
      clear ht hb
      by_cases ho : t.off = (j : Int)
      · have HG : Hid (subI f j (k + 1) (p.ts.drop (k + 1)) (n - f k) = keepsF p.ts f j) := by show _ = _; rw [← HR.out, HD.out, subI, if_pos ho]
        have hbe : (t.off == (j : Int)) = true := by simpa using ho
        clear ho
        go_wp2_with fail
        go_roundw
        case rel => exact ⟨k + 1, n - f k, by omega, rfl, by go_num, by omega, HG.out, HB.out⟩
        case measure => simp [intOf]; omega
      · have HG : Hid (subI f j (k + 1) (p.ts.drop (k + 1)) n = keepsF p.ts f j) := by show _ = _; rw [← HR.out, HD.out, subI, if_neg ho]
        have hbe : (t.off == (j : Int)) = false := by simpa using ho
        clear ho
        go_wp2_with fail
        go_roundw
        case rel => exact ⟨k + 1, n, by omega, rfl, by go_num, by omega, HG.out, HB.out⟩
        case measure => simp [intOf]; omega
    · have HG : Hid (n = keepsF p.ts f j) := by show _ = _; rw [← HR.out, List.drop_of_length_le (by have := HT.out.1; omega), subI]
      go_wp2_with fail
      go_ret
      exact ⟨ret_int HG.out, HB.out.below⟩

set_option maxRecDepth 40000 in
set_option maxHeartbeats 4000000 in
theorem isListed_any (p : Prg) (lp : Option Addr) (ln lc : Nat) (tp : Option Addr) (tn tc : Nat) (rp : Option Addr) (rn rc : Nat) (q : Option Addr) (m c : Nat) (l : List Int) (w : World) (hp : PrgAt w p lp ln tp tn rp rn) (hl : IntsAt w q m l) (hln : ln ≤ 1000000) (hmn : m ≤ 1000000) :
    Calls Try.prog 25 #[.agg #[.slice lp ln lc, .int .i64 p.reserve, .slice tp tn tc, .slice rp rn rc], .slice q m c] w fun e w' => e = .returned (.bool (listedB p.losses l)) ∧ Below w.heap.size w w' := by
  have HP := hid hp.l
  have HL := hid hl
  have HLN := hid hp.l.1; have HMN := hid hl.1
  clear hp hl
  have H0 : Hid (Boxed1 w #[.slice lp ln lc, .int .i64 p.reserve, .slice tp tn tc, .slice rp rn rc] 26 (w.alloc (.cells #[.slice lp ln lc, .int .i64 p.reserve, .slice tp tn tc, .slice rp rn rc] 26))) := hid (Boxed1.start _ _ _)
  go_enter Try.func25, Try.ntmps25
  go_wp2
  go_loopw [5] (fun i wr => ∃ k : Nat, k ≤ ln ∧ k ≤ m ∧ i = .int .i64 k ∧ listedB (p.losses.drop k) (l.drop k) = listedB p.losses l ∧ Boxed1 w #[.slice lp ln lc, .int .i64 p.reserve, .slice tp tn tc, .slice rp rn rc] 26 wr) (fun i _ => m - (intOf i).toNat)
  case atStart => exact ⟨0, by omega, by omega, rfl, rfl, H0.out⟩
  case round =>
    obtain ⟨k, hk1, hk2, rfl, hr, hb⟩ := hrel
    have HR := hid hr; have HB := hid hb
    clear hr
    by_cases h1 : k < m
    · by_cases h2 : k < ln
      · obtain ⟨b1, o1, rfl, hb1, hc⟩ := (HL.out.below hb.below).at h1
        obtain ⟨r, ht, b2, o2, rfl, hb2, hd0, hd1⟩ := (HP.out.below hb.below).rng h2
        have HX := hid ht
        have HD := hid (drop_at' ht)
        have HD2 := hid (drop_at l k (by have := HMN.out; omega))
        obtain ⟨z, hz⟩ : ∃ z, l[k]?.getD 0 = z := ⟨_, rfl⟩
        rw [hz] at hc HD2
        have e0 := hb.cell 0 (v := .slice (some ⟨b2, o2, none⟩) ln lc) rfl
        have HZ := hid hz; clear ht hb hz
        have HCV := hid (fun V (hV : Boxed1 w #[.slice (some ⟨b2, o2, none⟩) ln lc, .int .i64 p.reserve, .slice tp tn tc, .slice rp rn rc] 26 V) => (HL.out.below hV.below))
        cases hin : inB z r.lo r.hi
        · have HF : Hid (listedB p.losses l = false) := by show _ = _; rw [← HR.out, HD.out, HD2.out, listedB, hin]; rfl
          go_wp2_with fail
          clear e0 hd0 hd1 hc
          refine wp_region_held_drew (S := fun V => Boxed1 w #[.slice (some ⟨b2, o2, none⟩) ln lc, .int .i64 p.reserve, .slice tp tn tc, .slice rp rn rc] 26 V) (by kernel_rfl) (HB.out.drew) (fun hS => ?_)
          simp only [List.size_toArray, List.length_cons, List.length_nil, Nat.reduceAdd, Array.replicate_succ, Array.replicate_zero, List.push_toArray, List.nil_append, List.cons_append]
          refine tkH (i := 0) (v := ?_) (fun V hV => ?_) ?_
          rotate_left
          · go_simp
            try with_reducible rfl
          try simp only [Act.put, List.getElem_toArray, List.getElem_cons_zero, List.setIfInBounds_toArray, List.set_cons_zero, List.set_cons_succ]
          refine tkH (i := 1) (v := ?_) (fun V hV => ?_) ?_
          rotate_left
          · go_simp
            try with_reducible rfl
          try simp only [Act.put, List.getElem_toArray, List.getElem_cons_zero, List.getElem_cons_succ, List.setIfInBounds_toArray, List.set_cons_zero, List.set_cons_succ]
          refine tkH (i := 2) (v := ?_) (fun V hV => ?_) ?_
          rotate_left
          · go_simp
            try with_reducible rfl
          try simp only [Act.put, List.getElem_toArray, List.getElem_cons_zero, List.getElem_cons_succ, List.setIfInBounds_toArray, List.set_cons_zero, List.set_cons_succ]
          refine tkH (i := 3) (v := ?_) (fun V hV => ?_) ?_
          rotate_left
          · have ⟨b3, o3, e3, _, hd⟩ := (HL.out.below hV.below).at h1; cases e3; rw [HZ.out] at hd; go_simp
            try with_reducible rfl
          try simp only [Act.put, List.getElem_toArray, List.getElem_cons_zero, List.getElem_cons_succ, List.setIfInBounds_toArray, List.set_cons_zero, List.set_cons_succ]
          refine tkH (i := 4) (v := ?_) (fun V hV => ?_) ?_
          rotate_left
          · go_simp
            try with_reducible rfl
          try simp only [Act.put, List.getElem_toArray, List.getElem_cons_zero, List.getElem_cons_succ, List.setIfInBounds_toArray, List.set_cons_zero, List.set_cons_succ]
          refine tkH (i := 5) (v := ?_) (fun V hV => ?_) ?_
          rotate_left
          · have e0 := hV.cell 0 (v := .slice (some ⟨b2, o2, none⟩) ln lc) rfl; go_simp
            try with_reducible rfl
          try simp only [Act.put, List.getElem_toArray, List.getElem_cons_zero, List.getElem_cons_succ, List.setIfInBounds_toArray, List.set_cons_zero, List.set_cons_succ]
          refine tkH (i := 6) (v := ?_) (fun V hV => ?_) ?_
          rotate_left
          · go_simp
            try with_reducible rfl
          try simp only [Act.put, List.getElem_toArray, List.getElem_cons_zero, List.getElem_cons_succ, List.setIfInBounds_toArray, List.set_cons_zero, List.set_cons_succ]
          refine tkH (i := 7) (v := ?_) (fun V hV => ?_) ?_
          rotate_left
          · go_simp
            try with_reducible rfl
          try simp only [Act.put, List.getElem_toArray, List.getElem_cons_zero, List.getElem_cons_succ, List.setIfInBounds_toArray, List.set_cons_zero, List.set_cons_succ]
          refine tkH (i := 8) (v := ?_) (fun V hV => ?_) ?_
          rotate_left
          · go_simp
            try with_reducible rfl
          try simp only [Act.put, List.getElem_toArray, List.getElem_cons_zero, List.getElem_cons_succ, List.setIfInBounds_toArray, List.set_cons_zero, List.set_cons_succ]
          refine tkH (i := 9) (v := ?_) (fun V hV => ?_) ?_
          rotate_left
          · have ⟨c0, c1⟩ := rng_again (HP.out.below hV.below) HX.out; go_simp
            try with_reducible rfl
          try simp only [Act.put, List.getElem_toArray, List.getElem_cons_zero, List.getElem_cons_succ, List.setIfInBounds_toArray, List.set_cons_zero, List.set_cons_succ]
          refine tkH (i := 10) (v := ?_) (fun V hV => ?_) ?_
          rotate_left
          · go_simp
            try with_reducible rfl
          try simp only [Act.put, List.getElem_toArray, List.getElem_cons_zero, List.getElem_cons_succ, List.setIfInBounds_toArray, List.set_cons_zero, List.set_cons_succ]
          refine tkH (i := 11) (v := ?_) (fun V hV => ?_) ?_
          rotate_left
          · have e0 := hV.cell 0 (v := .slice (some ⟨b2, o2, none⟩) ln lc) rfl; go_simp
            try with_reducible rfl
          try simp only [Act.put, List.getElem_toArray, List.getElem_cons_zero, List.getElem_cons_succ, List.setIfInBounds_toArray, List.set_cons_zero, List.set_cons_succ]
          refine tkH (i := 12) (v := ?_) (fun V hV => ?_) ?_
          rotate_left
          · go_simp
            try with_reducible rfl
          try simp only [Act.put, List.getElem_toArray, List.getElem_cons_zero, List.getElem_cons_succ, List.setIfInBounds_toArray, List.set_cons_zero, List.set_cons_succ]
          refine tkH (i := 13) (v := ?_) (fun V hV => ?_) ?_
          rotate_left
          · go_simp
            try with_reducible rfl
          try simp only [Act.put, List.getElem_toArray, List.getElem_cons_zero, List.getElem_cons_succ, List.setIfInBounds_toArray, List.set_cons_zero, List.set_cons_succ]
          refine tkH (i := 14) (v := ?_) (fun V hV => ?_) ?_
          rotate_left
          · go_simp
            try with_reducible rfl
          try simp only [Act.put, List.getElem_toArray, List.getElem_cons_zero, List.getElem_cons_succ, List.setIfInBounds_toArray, List.set_cons_zero, List.set_cons_succ]
          refine tkH (i := 15) (v := ?_) (fun V hV => ?_) ?_
          rotate_left
          · have ⟨c0, c1⟩ := rng_again (HP.out.below hV.below) HX.out; go_simp
            try with_reducible rfl
          try simp only [Act.put, List.getElem_toArray, List.getElem_cons_zero, List.getElem_cons_succ, List.setIfInBounds_toArray, List.set_cons_zero, List.set_cons_succ]
          refine wpAnyH_ready (rs := [16]) (by kernel_rfl) (by simp) ?_
          refine AllReadyH.cons (o := _) rfl (fun K hK => ?_) AllReadyH.nil
          go_simp
          (with_reducible refine (in_any z r.lo r.hi _).mono ?_)
          rintro e v16 ⟨rfl, rfl⟩
          rw [hin]
          refine hK.out _ _ (hS) (fun hS => ?_)
          clear hK K
          try simp only [List.setIfInBounds_toArray, List.set_cons_zero, List.set_cons_succ]
          refine tkH (i := 17) (v := ?_) (fun V hV => ?_) ?_
          rotate_left
          · go_simp
            try with_reducible rfl
          try simp only [Act.put, List.getElem_toArray, List.getElem_cons_zero, List.getElem_cons_succ, List.setIfInBounds_toArray, List.set_cons_zero, List.set_cons_succ]
          refine wpAnyH_done (by kernel_rfl) ?_ _
          have HB2 := hid hS
          clear hS
          go_wp2_with fail
          go_ret
          exact ⟨ret_bool HF.out.symm, HB2.out.below⟩
        · have HF : Hid (listedB (p.losses.drop (k + 1)) (l.drop (k + 1)) = listedB p.losses l) := by show _ = _; rw [← HR.out, HD.out, HD2.out, listedB, hin]; rfl
          go_wp2_with fail
          clear e0 hd0 hd1 hc
          refine wp_region_held_drew (S := fun V => Boxed1 w #[.slice (some ⟨b2, o2, none⟩) ln lc, .int .i64 p.reserve, .slice tp tn tc, .slice rp rn rc] 26 V) (by kernel_rfl) (HB.out.drew) (fun hS => ?_)
          simp only [List.size_toArray, List.length_cons, List.length_nil, Nat.reduceAdd, Array.replicate_succ, Array.replicate_zero, List.push_toArray, List.nil_append, List.cons_append]
          refine tkH (i := 0) (v := ?_) (fun V hV => ?_) ?_
          rotate_left
          · go_simp
            try with_reducible rfl
          try simp only [Act.put, List.getElem_toArray, List.getElem_cons_zero, List.setIfInBounds_toArray, List.set_cons_zero, List.set_cons_succ]
          refine tkH (i := 1) (v := ?_) (fun V hV => ?_) ?_
          rotate_left
          · go_simp
            try with_reducible rfl
          try simp only [Act.put, List.getElem_toArray, List.getElem_cons_zero, List.getElem_cons_succ, List.setIfInBounds_toArray, List.set_cons_zero, List.set_cons_succ]
          refine tkH (i := 2) (v := ?_) (fun V hV => ?_) ?_
          rotate_left
          · go_simp
            try with_reducible rfl
          try simp only [Act.put, List.getElem_toArray, List.getElem_cons_zero, List.getElem_cons_succ, List.setIfInBounds_toArray, List.set_cons_zero, List.set_cons_succ]
          refine tkH (i := 3) (v := ?_) (fun V hV => ?_) ?_
          rotate_left
          · have ⟨b3, o3, e3, _, hd⟩ := (HL.out.below hV.below).at h1; cases e3; rw [HZ.out] at hd; go_simp
            try with_reducible rfl
          try simp only [Act.put, List.getElem_toArray, List.getElem_cons_zero, List.getElem_cons_succ, List.setIfInBounds_toArray, List.set_cons_zero, List.set_cons_succ]
          refine tkH (i := 4) (v := ?_) (fun V hV => ?_) ?_
          rotate_left
          · go_simp
            try with_reducible rfl
          try simp only [Act.put, List.getElem_toArray, List.getElem_cons_zero, List.getElem_cons_succ, List.setIfInBounds_toArray, List.set_cons_zero, List.set_cons_succ]
          refine tkH (i := 5) (v := ?_) (fun V hV => ?_) ?_
          rotate_left
          · have e0 := hV.cell 0 (v := .slice (some ⟨b2, o2, none⟩) ln lc) rfl; go_simp
            try with_reducible rfl
          try simp only [Act.put, List.getElem_toArray, List.getElem_cons_zero, List.getElem_cons_succ, List.setIfInBounds_toArray, List.set_cons_zero, List.set_cons_succ]
          refine tkH (i := 6) (v := ?_) (fun V hV => ?_) ?_
          rotate_left
          · go_simp
            try with_reducible rfl
          try simp only [Act.put, List.getElem_toArray, List.getElem_cons_zero, List.getElem_cons_succ, List.setIfInBounds_toArray, List.set_cons_zero, List.set_cons_succ]
          refine tkH (i := 7) (v := ?_) (fun V hV => ?_) ?_
          rotate_left
          · go_simp
            try with_reducible rfl
          try simp only [Act.put, List.getElem_toArray, List.getElem_cons_zero, List.getElem_cons_succ, List.setIfInBounds_toArray, List.set_cons_zero, List.set_cons_succ]
          refine tkH (i := 8) (v := ?_) (fun V hV => ?_) ?_
          rotate_left
          · go_simp
            try with_reducible rfl
          try simp only [Act.put, List.getElem_toArray, List.getElem_cons_zero, List.getElem_cons_succ, List.setIfInBounds_toArray, List.set_cons_zero, List.set_cons_succ]
          refine tkH (i := 9) (v := ?_) (fun V hV => ?_) ?_
          rotate_left
          · have ⟨c0, c1⟩ := rng_again (HP.out.below hV.below) HX.out; go_simp
            try with_reducible rfl
          try simp only [Act.put, List.getElem_toArray, List.getElem_cons_zero, List.getElem_cons_succ, List.setIfInBounds_toArray, List.set_cons_zero, List.set_cons_succ]
          refine tkH (i := 10) (v := ?_) (fun V hV => ?_) ?_
          rotate_left
          · go_simp
            try with_reducible rfl
          try simp only [Act.put, List.getElem_toArray, List.getElem_cons_zero, List.getElem_cons_succ, List.setIfInBounds_toArray, List.set_cons_zero, List.set_cons_succ]
          refine tkH (i := 11) (v := ?_) (fun V hV => ?_) ?_
          rotate_left
          · have e0 := hV.cell 0 (v := .slice (some ⟨b2, o2, none⟩) ln lc) rfl; go_simp
            try with_reducible rfl
          try simp only [Act.put, List.getElem_toArray, List.getElem_cons_zero, List.getElem_cons_succ, List.setIfInBounds_toArray, List.set_cons_zero, List.set_cons_succ]
          refine tkH (i := 12) (v := ?_) (fun V hV => ?_) ?_
          rotate_left
          · go_simp
            try with_reducible rfl
          try simp only [Act.put, List.getElem_toArray, List.getElem_cons_zero, List.getElem_cons_succ, List.setIfInBounds_toArray, List.set_cons_zero, List.set_cons_succ]
          refine tkH (i := 13) (v := ?_) (fun V hV => ?_) ?_
          rotate_left
          · go_simp
            try with_reducible rfl
          try simp only [Act.put, List.getElem_toArray, List.getElem_cons_zero, List.getElem_cons_succ, List.setIfInBounds_toArray, List.set_cons_zero, List.set_cons_succ]
          refine tkH (i := 14) (v := ?_) (fun V hV => ?_) ?_
          rotate_left
          · go_simp
            try with_reducible rfl
          try simp only [Act.put, List.getElem_toArray, List.getElem_cons_zero, List.getElem_cons_succ, List.setIfInBounds_toArray, List.set_cons_zero, List.set_cons_succ]
          refine tkH (i := 15) (v := ?_) (fun V hV => ?_) ?_
          rotate_left
          · have ⟨c0, c1⟩ := rng_again (HP.out.below hV.below) HX.out; go_simp
            try with_reducible rfl
          try simp only [Act.put, List.getElem_toArray, List.getElem_cons_zero, List.getElem_cons_succ, List.setIfInBounds_toArray, List.set_cons_zero, List.set_cons_succ]
          refine wpAnyH_ready (rs := [16]) (by kernel_rfl) (by simp) ?_
          refine AllReadyH.cons (o := _) rfl (fun K hK => ?_) AllReadyH.nil
          go_simp
          (with_reducible refine (in_any z r.lo r.hi _).mono ?_)
          rintro e v16 ⟨rfl, rfl⟩
          rw [hin]
          refine hK.out _ _ (hS) (fun hS => ?_)
          clear hK K
          try simp only [List.setIfInBounds_toArray, List.set_cons_zero, List.set_cons_succ]
          refine tkH (i := 17) (v := ?_) (fun V hV => ?_) ?_
          rotate_left
          · go_simp
            try with_reducible rfl
          try simp only [Act.put, List.getElem_toArray, List.getElem_cons_zero, List.getElem_cons_succ, List.setIfInBounds_toArray, List.set_cons_zero, List.set_cons_succ]
          refine wpAnyH_done (by kernel_rfl) ?_ _
          have HB2 := hid hS
          clear hS
          go_wp2_with fail
          go_roundw
          case rel => exact ⟨k + 1, by omega, by omega, by go_num, HF.out, HB2.out⟩
          case measure => simp [intOf]; omega
      · have HE : Hid (p.losses.drop k = [] ∧ l.drop k ≠ []) := hid ⟨List.drop_of_length_le (by have := HLN.out; omega), by intro h; rw [List.drop_eq_nil_iff] at h; have := HMN.out; omega⟩
        have HF : Hid (listedB p.losses l = false) := by
          show _ = _
          rw [← HR.out, HE.out.1]
          cases hh : l.drop k with
          | nil => exact absurd hh HE.out.2
          | cons a b => rfl
        have e0 := hb.cell 0 (v := .slice lp ln lc) rfl
        have hne : ((m : Int) == (ln : Int)) = false := by simp; omega
        clear hb
        go_wp2_with fail
        go_ret
        exact ⟨ret_bool HF.out.symm, HB.out.below⟩
    · have HE : Hid (l.drop k = []) := hid (List.drop_of_length_le (by have := HMN.out; omega))
      have e0 := hb.cell 0 (v := .slice lp ln lc) rfl
      clear hb
      by_cases h2 : m = ln
      · have HF : Hid (listedB p.losses l = true) := by show _ = _; rw [← HR.out, HE.out, List.drop_of_length_le (by have := HLN.out; omega)]; rfl
        have hne : ((m : Int) == (ln : Int)) = true := by simp; omega
        clear h2
        go_wp2_with fail
        go_ret
        exact ⟨ret_bool HF.out.symm, HB.out.below⟩
      · have HF : Hid (listedB p.losses l = false) := by
          show _ = _
          rw [← HR.out, HE.out]
          cases hh : p.losses.drop k with
          | nil => rw [List.drop_eq_nil_iff] at hh; have := HLN.out; omega
          | cons a b => rfl
        have hne : ((m : Int) == (ln : Int)) = false := by simp; omega
        clear h2
        go_wp2_with fail
        go_ret
        exact ⟨ret_bool HF.out.symm, HB.out.below⟩
end Go.Proofs.Ytaioobhblfnlaaa
