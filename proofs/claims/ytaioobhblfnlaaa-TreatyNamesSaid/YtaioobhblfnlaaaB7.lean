/- The reference and the statements: bits, which reports are right together, the first wrong report, the smallest set; wider ranges; prices. No condition. -/
import Derived.Test.YtaioobhblfnlaaaB6
namespace Go.Proofs.Ytaioobhblfnlaaa
open Go.RowKit

theorem near_setCells (b : Nat) : ∀ (vs : List Value) (o : Nat) (w : World), Near (fun i => i = b) w (w.setCells b o vs)
  | [], _, w => Near.refl _ w
  | v :: vs, o, w => by
    show Near _ w ((w.setCell ⟨b, o, none⟩ v).setCells b (o + 1) vs)
    exact ((Near.refl (fun i => i = b) w).setCell (p := ⟨b, o, none⟩) (fun _ => rfl) v).trans' (near_setCells b vs (o + 1) _) (fun _ _ h => h)
theorem BoxIs.there {b : Nat} {vs : Array Value} {W : World} (h : BoxIs b vs W) : W.there b 0 vs.size := fun j hj => by
  have h1 := h.2 j vs[j] (Array.getElem?_eq_getElem hj)
  rw [Nat.zero_add]
  exact ⟨by rw [h1.1]; rfl, h1.2⟩
theorem BoxIs.stored {b : Nat} {vs cs : Array Value} {W : World} (h : BoxIs b vs W) (hs : vs.size = cs.size) : BoxIs b cs (W.setCells b 0 cs.toList) := by
  have ht : W.there b 0 cs.toList.length := by rw [Array.length_toList, ← hs]; exact h.there
  have hn := near_setCells b cs.toList 0 W
  refine ⟨Nat.lt_of_lt_of_le h.1 hn.size, fun k v hk => ⟨?_, ?_⟩⟩
  · have h1 := World.rangeAt_setCells_same W b 0 cs.toList ht k v (by simpa using hk)
    rwa [Nat.zero_add] at h1
  · have h1 := (World.there_setCells ht b 0 cs.toList) k (by have := (Array.getElem?_eq_some_iff.1 hk).1; simpa using this)
    rw [Nat.zero_add] at h1
    exact h1.2
/-- A struct is stored into its box: at a plain region's list. -/
theorem store_box {ops : Array Oper} {rest : List Oper} {op : Oper} {a : Act} {w : World} {Q : Exit → Act → World → Prop} (hgd : op.guard = none) (ty : TypeId) (x y : Operand) (ho : op.op = .store ty x y)
    (b : Nat) (vs cells : Array Value) (hx : a.eval x = .pointer (some ⟨b, 0, none⟩)) (hy : a.eval y = .agg cells)
    (hb : BoxIs b vs w) (n : Nat) (hv : vs.size = n) (hc : cells.size = n) (hi : (Try.prog.info? ty).map (·.size) = some n) (h1 : cells.all (·.oneCell') = true)
    (h : ∀ w', BoxIs b cells w' → Near (fun i => i = b) w w' → wpList Try.prog ops Q rest (a.put op.dst undef) w') : wpList Try.prog ops Q (op :: rest) a w :=
  wpList_store_mid hgd ty x y ho b 0 cells hx hy (by rw [hc, ← hv]; exact hb.there) (by rw [hc]; exact hi) h1 (h _ (hb.stored (hv.trans hc.symm)) (near_setCells b cells.toList 0 w))
theorem BoxIs.far {b : Nat} {vs : Array Value} {W W' : World} {S : Nat → Prop} (h : BoxIs b vs W) (hn : Near S W W') (hS : ¬ S b) : BoxIs b vs W' :=
  ⟨Nat.lt_of_lt_of_le h.1 hn.size, fun k v hk => ⟨(hn.cell (p := ⟨b, k, none⟩) h.1 hS).trans (h.2 k v hk).1, (hn.frozen (p := ⟨b, k, none⟩) h.1 hS).trans (h.2 k v hk).2⟩⟩
theorem made_ints (n : Nat) : madeCells #[Value.int .i64 0] n = intsV (List.replicate n 0) := by
  apply Array.ext
  · simp [madeCells, intsV]
  · intro i h1 h2; simp [madeCells, intsV, Nat.mod_one]
theorem boxIs_made (w : World) (n : Nat) : BoxIs w.heap.size (intsV (List.replicate n 0)) (w.alloc (.cells (madeCells #[.int .i64 0] n) 3)) := by
  rw [made_ints]; exact BoxIs.start _ _ _

def everyN (n : Nat) : Int := ((2 ^ n - 1 : Nat) : Int)

set_option maxRecDepth 20000 in
set_option maxHeartbeats 1000000 in
theorem every_any (p : Prg) (lp : Option Addr) (ln lc : Nat) (tp : Option Addr) (tn tc : Nat) (rp : Option Addr) (rn rc : Nat) (w : World) (hn : tn ≤ 9) :
    Calls Try.prog 27 #[.agg #[.slice lp ln lc, .int .i64 p.reserve, .slice tp tn tc, .slice rp rn rc]] w fun e w' => e = .returned (.int .i64 (everyN tn)) ∧ Below w.heap.size w w' := by
  obtain ⟨M, hM, hM1, hM2, hM3⟩ := pow_facts hn
  have HF : Hid (everyN tn = (M : Int) - 1) := by show _ = _; rw [everyN, hM]; omega
  have hcv : IntKind.u64.wrap ((tn : Nat) : Int) = ((tn : Nat) : Int) := by rw [IntKind.wrap_u64]; omega
  clear hM
  go_enter Try.func27, Try.ntmps27
  go_wp2
  go_ret
  exact ⟨ret_int HF.out.symm, (Below.refl _ _).alloc (Nat.le_refl _) _⟩

set_option maxRecDepth 20000 in
set_option maxHeartbeats 1000000 in
theorem full_any (p : Prg) (lp : Option Addr) (ln lc : Nat) (tp : Option Addr) (tn tc : Nat) (rp : Option Addr) (rn rc : Nat) (w : World) (hn : rn ≤ 9) :
    Calls Try.prog 61 #[.agg #[.slice lp ln lc, .int .i64 p.reserve, .slice tp tn tc, .slice rp rn rc]] w fun e w' => e = .returned (.int .i64 (everyN rn)) ∧ Below w.heap.size w w' := by
  obtain ⟨M, hM, hM1, hM2, hM3⟩ := pow_facts hn
  have HF : Hid (everyN rn = (M : Int) - 1) := by show _ = _; rw [everyN, hM]; omega
  have hcv : IntKind.u64.wrap ((rn : Nat) : Int) = ((rn : Nat) : Int) := by rw [IntKind.wrap_u64]; omega
  clear hM
  go_enter Try.func61, Try.ntmps61
  go_wp2
  go_ret
  exact ⟨ret_int HF.out.symm, (Below.refl _ _).alloc (Nat.le_refl _) _⟩
theorem i64_and_nat (a b : Nat) (ha : a < 4096) (hb : b < 4096) : bits .and .i64 (a : Int) (b : Int) = ((a &&& b : Nat) : Int) := by
  have h : (a &&& b) ≤ a := Nat.and_le_left
  show IntKind.i64.wrap ((BitVec.ofInt 64 (a : Int) &&& BitVec.ofInt 64 (b : Int)).toNat : Int) = _
  rw [BitVec.toNat_and, ofInt_u64 a (by omega), ofInt_u64 b (by omega), IntWalk.i64_in _ (by omega)]

/-- Whether some of the sets have all of k (by bits). -/
def canN (all : List Nat) (k : Nat) : Bool := all.any fun a => decide (a &&& k = k)

def castL (all : List Nat) : List Int := all.map fun a : Nat => (a : Int)

theorem castL_get (all : List Nat) (i : Nat) : (castL all)[i]?.getD 0 = ((all[i]?.getD 0 : Nat) : Int) := by
  unfold castL
  rw [List.getElem?_map]
  cases all[i]? <;> rfl

theorem drop_nat (l : List Nat) (k : Nat) (h : k < l.length) : l.drop k = l[k]?.getD 0 :: l.drop (k + 1) := by
  rw [List.drop_eq_getElem_cons h]; simp [h]
set_option maxRecDepth 20000 in
set_option maxHeartbeats 1000000 in
theorem can_any (p : Option Addr) (n c : Nat) (all : List Nat) (k : Nat) (w : World) (hl : IntsAt w p n (castL all)) (hn : n ≤ 1000000) (ha : ∀ a ∈ all, a < 4096) (hk : k < 4096) :
    Calls Try.prog 85 #[.slice p n c, .int .i64 (k : Nat)] w fun e w' => e = .returned (.bool (canN all k)) ∧ w' = w := by
  have HL := hid hl
  have HN : Hid (n = all.length) := by show _ = _; rw [hl.1, castL, List.length_map]
  clear hl
  go_enter Try.func85, Try.ntmps85
  go_wp2
  go_loop [5] (fun i => ∃ (j : Nat), j ≤ n ∧ i = .int .i64 j ∧ (all.drop j).any (fun a => decide (a &&& k = k)) = canN all k) (fun i => n - (intOf i).toNat)
  case atStart => exact ⟨0, Nat.zero_le _, rfl, rfl⟩
  case round =>
    obtain ⟨j, hj, rfl, hr⟩ := hrel
    have HR := hid hr
    clear hr
    by_cases h1 : j < n
    · obtain ⟨b1, o1, rfl, hb1, hc1⟩ := HL.out.at h1
      rw [castL_get] at hc1
      have HD := hid (drop_nat all j (by have := HN.out; omega))
      have hz : all[j]?.getD 0 < 4096 := by
        have hj' : j < all.length := by have := HN.out; omega
        rw [List.getElem?_eq_getElem hj']
        exact ha _ (List.getElem_mem hj')
      have HA := hid ha
      clear ha
      obtain ⟨z, hzz⟩ : ∃ z, all[j]?.getD 0 = z := ⟨_, rfl⟩
      rw [hzz] at hc1 hz HD
      have HZ := hid hzz
      clear hzz
      have hand := i64_and_nat z k hz hk
      by_cases hx : z &&& k = k
      · have hx' : (((z &&& k : Nat) : Int) == (k : Int)) = true := by simp [hx]
        have HF : Hid (canN all k = true) := by show _ = _; rw [← HR.out, HD.out]; simp [hx]
        have HX := hid hx
        clear hx
        go_wp2
        go_ret
        exact ⟨ret_bool HF.out.symm, rfl⟩
      · have hx' : (((z &&& k : Nat) : Int) == (k : Int)) = false := by simp; omega
        have HF : Hid ((all.drop (j + 1)).any (fun a => decide (a &&& k = k)) = canN all k) := by show _ = _; rw [← HR.out, HD.out]; simp [hx]
        have HX := hid hx
        clear hx
        go_wp2
        go_round
        case rel => exact ⟨j + 1, by omega, by go_num, HF.out⟩
        case measure => simp [intOf]; omega
    · have HF : Hid (canN all k = false) := by
        show _ = _
        rw [← HR.out, List.drop_of_length_le (by have := HN.out; omega)]; rfl
      go_wp2
      go_ret
      exact ⟨ret_bool HF.out.symm, rfl⟩
theorem two_bits {k : Nat} (hk : k ≤ 6) : ∃ N : Nat, 2 ^ k = N ∧ 1 ≤ N ∧ N ≤ 64 ∧ wrap64 (2 ^ k) = (N : Int) ∧ wrap64 (2 * 2 ^ k) = 2 * (N : Int) ∧ ((2 ^ k - 1 : Nat) : Int) = (N : Int) - 1 ∧ ((2 ^ (k + 1) - 1 : Nat) : Int) = 2 * (N : Int) - 1 := by
  have : k = 0 ∨ k = 1 ∨ k = 2 ∨ k = 3 ∨ k = 4 ∨ k = 5 ∨ k = 6 := by omega
  rcases this with rfl | rfl | rfl | rfl | rfl | rfl | rfl <;> exact ⟨_, rfl, by decide, by decide, by decide +kernel, by decide +kernel, by decide +kernel, by decide +kernel⟩
set_option maxRecDepth 20000 in
set_option maxHeartbeats 4000000 in
theorem firstR_any (p : Prg) (lp : Option Addr) (ln lc : Nat) (tp : Option Addr) (tn tc : Nat) (rp : Option Addr) (rn rc : Nat) (q : Option Addr) (N d : Nat) (all : List Nat) (w : World) (hl : IntsAt w q N (castL all)) (hN : N ≤ 1000000) (ha : ∀ a ∈ all, a < 4096) (hn : rn ≤ 6) :
    Calls Try.prog 47 #[.agg #[.slice lp ln lc, .int .i64 p.reserve, .slice tp tn tc, .slice rp rn rc], .slice q N d] w fun e w' => e = .returned (.int .i64 (firstG (fun j => canN all (2 ^ (j + 1) - 1)) 0 rn)) ∧ Below w.heap.size w w' := by
  have HA := hid (fun W (k : Nat) (hk : k < 4096) (hW : Below w.heap.size w W) => can_any q N d all k W (hl.below hW) hN ha hk)
  clear hl hN ha
  go_enter Try.func47, Try.ntmps47
  go_wp2_with fail
  go_loopw [5] (fun i wr => ∃ k : Nat, k ≤ rn ∧ i = .int .i64 k ∧ firstG (fun j => canN all (2 ^ (j + 1) - 1)) k (rn - k) = firstG (fun j => canN all (2 ^ (j + 1) - 1)) 0 rn ∧ Boxed1 w #[.slice lp ln lc, .int .i64 p.reserve, .slice tp tn tc, .slice rp rn rc] 26 wr) (fun i _ => rn - (intOf i).toNat)
  case atStart => exact ⟨0, by omega, rfl, rfl, Boxed1.start _ _ _⟩
  case round =>
    obtain ⟨k, hk, rfl, hr, HB⟩ := hrel
    have HR := hid hr
    clear hr
    have e3 := HB.cell 3 (v := .slice rp rn rc) rfl
    by_cases hlt : k < rn
    · obtain ⟨P, hP, hP1, hP2, hP3, hP4, hP5, hP6⟩ := two_bits (show k ≤ 6 by omega)
      have HG := hid (firstG_go (fun j => canN all (2 ^ (j + 1) - 1)) k rn hlt)
      have HQ : Hid (2 * (P : Int) - 1 = ((2 ^ (k + 1) - 1 : Nat) : Int) ∧ 2 ^ (k + 1) - 1 < 4096) := hid ⟨hP6.symm, by omega⟩
      have hcv : IntKind.u64.wrap (k : Int) = (k : Int) := by rw [IntKind.wrap_u64]; omega
      have hw9 : IntKind.i64.wrap (2 * (P : Int) - 1) = 2 * (P : Int) - 1 := IntWalk.i64_in _ (by omega)
      clear hP hP5 hP6
      go_wp2_with fail
      rw [HQ.out.1]
      refine (HA.out _ _ HQ.out.2 HB.below).mono ?_
      rintro e w2 ⟨rfl, rfl⟩
      cases hc : canN all (2 ^ (k + 1) - 1)
      · have HF : Hid (firstG (fun j => canN all (2 ^ (j + 1) - 1)) 0 rn = (k : Int)) := by show _ = _; rw [← HR.out, HG.out]; simp [hc]
        clear hc
        go_wp2_with fail
        go_ret
        exact ⟨ret_int HF.out.symm, HB.below⟩
      · have HF : Hid (firstG (fun j => canN all (2 ^ (j + 1) - 1)) (k + 1) (rn - (k + 1)) = firstG (fun j => canN all (2 ^ (j + 1) - 1)) 0 rn) := by show _ = _; rw [← HR.out, HG.out]; simp [hc]
        clear hc
        go_wp2_with fail
        go_roundw
        case rel => exact ⟨k + 1, by omega, by go_num, HF.out, HB⟩
        case measure => simp [intOf]; omega
    · have HF : Hid (firstG (fun j => canN all (2 ^ (j + 1) - 1)) 0 rn = -1) := by show _ = _; rw [← HR.out, firstG_end _ _ _ hlt]
      go_wp2_with fail
      go_ret
      exact ⟨ret_int HF.out.symm, HB.below⟩
set_option maxRecDepth 20000 in
set_option maxHeartbeats 4000000 in
theorem leaveR_any (p : Prg) (lp : Option Addr) (ln lc : Nat) (tp : Option Addr) (tn tc : Nat) (rp : Option Addr) (rn rc : Nat) (q : Option Addr) (N d : Nat) (all : List Nat) (w : World) (hl : IntsAt w q N (castL all)) (hN : N ≤ 1000000) (ha : ∀ a ∈ all, a < 4096) (hn : rn ≤ 6) :
    Calls Try.prog 46 #[.agg #[.slice lp ln lc, .int .i64 p.reserve, .slice tp tn tc, .slice rp rn rc], .slice q N d] w (RetInts w (bestL (fun b => canN all (andN (2 ^ rn - 1) b)) rn)) := by
  have HA := hid (fun W (k : Nat) (hk : k < 4096) (hW : Below w.heap.size w W) => can_any q N d all k W (hl.below hW) hN ha hk)
  have HE := hid (fun W => full_any p lp ln lc tp tn tc rp rn rc W (by omega))
  have HAN := hid (fun k (hk : k < 4096) => i64_andnot_nat (2 ^ rn - 1) k (by have h1 := Nat.two_pow_pos rn; have h2 : 2 ^ rn ≤ 64 := Nat.pow_le_pow_right (n := 2) (by decide) hn; omega))
  have HLT := hid (fun k => andN_lt (2 ^ rn - 1) k)
  obtain ⟨M, hM, hM1, hM2, hM3⟩ := pow_facts (show rn ≤ 9 by omega)
  have HEV : Hid (everyN rn = (M : Int) - 1) := by show _ = _; rw [everyN, hM]; omega
  have HM := hid hM
  have HBL : Hid (bestL (fun b => canN all (andN (2 ^ rn - 1) b)) rn = bestG (fun b => canN all (andN (2 ^ rn - 1) b)) 0 M (bitsL ((M : Int) - 1))) := by
    have e : (2 : Int) ^ rn = ((2 ^ rn : Nat) : Int) := by simp
    show _ = _
    unfold bestL
    rw [e, hM]
  obtain ⟨f, hf⟩ : ∃ f, (fun b => canN all (andN (2 ^ rn - 1) b)) = f := ⟨_, rfl⟩
  have HFF : Hid (∀ k : Nat, f k = canN all (andN (M - 1) k)) := by show ∀ k, _; intro k; rw [← hf, hM]
  have HAN2 : Hid (∀ k : Nat, k < 4096 → bits .andNot .i64 ((M : Int) - 1) (k : Int) = ((andN (M - 1) k : Nat) : Int)) := by
    show ∀ k, _
    intro k hk
    have h := HAN.out k hk
    rw [hM, show ((M - 1 : Nat) : Int) = (M : Int) - 1 by omega] at h
    exact h
  have HLT2 : Hid (∀ k : Nat, andN (M - 1) k < 4096) := hid fun k => andN_lt _ _
  rw [hf] at HBL ⊢
  clear hl hN ha hM hf HAN HLT
  go_enter Try.func46, Try.ntmps46
  go_wp2_with fail
  refine (HE.out _).mono ?_
  rintro e w0 ⟨rfl, hb⟩
  rw [HEV.out]
  have HB0 : Boxed1 w #[.slice lp ln lc, .int .i64 p.reserve, .slice tp tn tc, .slice rp rn rc] 26 w0 := (Boxed1.start _ _ _).step hb
  clear hb
  go_wp2_with fail
  refine (bits_any _ _ (by omega) (by omega)).mono ?_
  rintro e w1 ⟨v0, rfl, ho0, hb0⟩
  have ho0' := ho0.mono (base' := w.heap.size) (by have := HB0.size; omega)
  have HB1 := HB0.step hb0
  clear ho0 hb0 HB0
  go_wp2_with fail
  go_loopw [5, 6] (fun v i wr => ∃ (k : Nat) (b : List Int), k ≤ M ∧ i = .int .i64 k ∧ OwnInts wr w.heap.size v b ∧ b.length ≤ 12 ∧ bestG f k (M - k) b = bestL f rn ∧ Boxed1 w #[.slice lp ln lc, .int .i64 p.reserve, .slice tp tn tc, .slice rp rn rc] 26 wr) (fun _ i _ => M - (intOf i).toNat)
  case atStart => exact ⟨0, _, by omega, rfl, ho0', bitsTo_len _ _, HBL.out.symm, HB1⟩
  case round =>
    clear HB1 ho0'
    obtain ⟨k, b, hk, rfl, ho, hbl, hr, HB⟩ := hrel
    have HR := hid hr
    clear hr
    have e0 := HB.cell 0 (v := .slice lp ln lc) rfl; have e1 := HB.cell 1 (v := .int .i64 p.reserve) rfl; have e2 := HB.cell 2 (v := .slice tp tn tc) rfl; have e3 := HB.cell 3 (v := .slice rp rn rc) rfl
    go_wp2_with fail
    refine (HE.out _).mono ?_
    rintro e wa ⟨rfl, hba⟩
    rw [HEV.out]
    have hoa := ho.below hba
    have HBa := HB.step hba
    clear ho hba HB e0 e1 e2 e3
    by_cases hlt : k < M
    · have HG := hid (bestG_go f k M b hlt)
      have hle : decide ((k : Int) ≤ (M : Int) - 1) = true := by rw [decide_eq_true_eq]; omega
      go_wp2_with fail
      refine (bits_any _ _ (by omega) (by omega)).mono ?_
      rintro e w2 ⟨v2, rfl, ho2, hb2⟩
      have HB2 := HBa.step hb2
      have hob := hoa.below hb2
      have ho2' := ho2.mono (base' := w.heap.size) (by have := HBa.size; omega)
      obtain ⟨p1, c1, rfl, hi1⟩ := hob.slice
      obtain ⟨p2, c2, rfl, hi2⟩ := ho2.slice
      have h2l : (bitsL (k : Int)).length ≤ 12 := bitsTo_len _ _
      have HOB := hid hob
      have HO2 := hid ho2'
      have HI1 := hid hi1
      have HI2 := hid hi2
      clear hoa ho2 hb2 hob ho2' hi1 hi2 HBa hle
      go_wp2_with fail
      refine (shorter_any _ _ _ _ _ _ _ _ _ HI2.out HI1.out (by omega) (by omega)).mono ?_
      rintro e w3 ⟨rfl, nn, rfl⟩
      cases hsh : shorterB (bitsL (k : Int)) b
      · have HF : Hid (bestG f (k + 1) (M - (k + 1)) b = bestL f rn) := by
          show _ = _; rw [← HR.out, HG.out, hsh]; rfl
        go_wp2_with fail
        go_roundw
        case rel => exact ⟨k + 1, _, by omega, by go_num, HOB.out.below (below_drewN (Below.refl _ _) _), hbl, HF.out, HB2.drewN _⟩
        case measure => simp [intOf]; omega
      · have HB3 := HB2.drewN nn
        have e0 := HB3.cell 0 (v := .slice lp ln lc) rfl; have e1 := HB3.cell 1 (v := .int .i64 p.reserve) rfl; have e2 := HB3.cell 2 (v := .slice tp tn tc) rfl; have e3 := HB3.cell 3 (v := .slice rp rn rc) rfl
        go_wp2_with fail
        refine (HE.out _).mono ?_
        rintro e w4 ⟨rfl, hb4⟩
        rw [HEV.out]
        have HB4 := HB3.step hb4
        have hand := HAN2.out k (by omega)
        clear e0 e1 e2 e3
        go_wp2_with fail
        refine (HA.out _ _ (HLT2.out k) HB4.below).mono ?_
        rintro e w5 ⟨rfl, rfl⟩
        rw [← HFF.out k]
        cases hcan : f k
        · have HF : Hid (bestG f (k + 1) (M - (k + 1)) b = bestL f rn) := by
            show _ = _; rw [← HR.out, HG.out, hsh, hcan]; rfl
          clear hsh hcan
          go_wp2_with fail
          go_roundw
          case rel => exact ⟨k + 1, _, by omega, by go_num, (HOB.out.below (below_drewN (Below.refl _ _) _)).below hb4, hbl, HF.out, HB4⟩
          case measure => simp [intOf]; omega
        · have HF : Hid (bestG f (k + 1) (M - (k + 1)) (bitsL k) = bestL f rn) := by
            show _ = _; rw [← HR.out, HG.out, hsh, hcan]; rfl
          clear hsh hcan
          go_wp2_with fail
          go_roundw
          case rel => exact ⟨k + 1, _, by omega, by go_num, (HO2.out.below (below_drewN (Below.refl _ _) _)).below hb4, h2l, HF.out, HB4⟩
          case measure => simp [intOf]; omega
    · have HF : Hid (b = bestL f rn) := by show _ = _; rw [← HR.out, bestG_end _ _ _ _ hlt]
      have hle : decide ((k : Int) ≤ (M : Int) - 1) = false := by rw [decide_eq_false_iff_not]; omega
      go_wp2_with fail
      go_ret
      exact ⟨_, rfl, HF.out ▸ hoa, HBa.below⟩

set_option maxRecDepth 20000 in
set_option maxHeartbeats 1000000 in
theorem emptyE_any (w : World) : Calls Try.prog 86 #[] w fun e w' => e = .returned (.agg #[.int .i64 (Rng.mk 1099511627776 (-1099511627776)).lo, .int .i64 (Rng.mk 1099511627776 (-1099511627776)).hi]) ∧ Below w.heap.size w w' := by
  go_enter Try.func86, Try.ntmps86
  go_wp2
  refine bodyPost_ret (v := .agg #[.int .i64 1099511627776, .int .i64 (-1099511627776)]) (by simp [results, Try.f86, go_sem]) rfl ?_
  exact ⟨rfl, (Below.refl _ _).alloc (Nat.le_refl _) _⟩
end Go.Proofs.Ytaioobhblfnlaaa
