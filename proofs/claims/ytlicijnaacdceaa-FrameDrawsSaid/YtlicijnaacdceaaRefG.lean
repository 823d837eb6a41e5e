/- The reference: counts, fields and lots -/
import Derived.Test.YtlicijnaacdceaaRefE
import Derived.Deep.Cut
/- Walks over package hailstoneref03, part F: IsTruth. -/
namespace Go.Proofs.Ytlicijnaacdceaa
open Go.RowKit

theorem CntsAt.at {w : World} {p n l} (h : CntsAt w p n l) {i : Nat} (hi : i < n) : ∃ c : Cnt, l[i]? = some c ∧ ∃ b off, p = some ⟨b, off, none⟩ ∧ b < w.heap.size ∧ w.cell? ⟨b, off + i * 4, none⟩ = some (.int .i64 c.place) ∧
    w.cell? ⟨b, off + i * 4 + 1, none⟩ = some (.int .i64 c.lo) ∧ w.cell? ⟨b, off + i * 4 + 2, none⟩ = some (.int .i64 c.hi) ∧ w.cell? ⟨b, off + i * 4 + 3, none⟩ = some (.bool c.late) := by
  obtain ⟨h1, h2⟩ := h
  have hi' : i < l.length := by omega
  exact ⟨l[i], by simp [hi'], h2 i _ (by simp [hi'])⟩

def rowB (cols : Int) (a b : Nat) : Bool := (((a : Int) / cols == (b : Int) / cols)) && ((b : Int) == a + 1)
def colB (cols : Int) (a b : Nat) : Bool := (b : Int) == a + cols
def nearB (cols sm : Int) (h : List Int) (a b : Nat) : Bool :=
  !(rowB cols a b || colB cols a b) || inB (h[a]?.getD 0 - h[b]?.getD 0) (-sm) sm
def pairsI (cols sm : Int) (h : List Int) (n a : Nat) : Bool := allR (nearB cols sm h a) (a + 1) (n - (a + 1))
def pairsG (cols sm : Int) (h : List Int) (n k : Nat) : Bool := allR (pairsI cols sm h n) k (n - k)

theorem quiet_add {P : Program} {f : FuncId} {args : Array Value} {w : World} {a n : Nat} {v : Value}
    (h : Calls P f args (w.drewN (a + n)) fun e w' => e = .returned v ∧ ∃ m, w' = (w.drewN (a + n)).drewN m) :
    Calls P f args (w.drewN (a + n)) fun e w'' => e = .returned v ∧ ∃ m, w'' = w.drewN (a + m) :=
  h.mono fun _ _ ⟨he, m, hm⟩ => ⟨he, n + m, by rw [hm, World.drewN_drewN, Nat.add_assoc]⟩
theorem quiet_add_same {P : Program} {f : FuncId} {args : Array Value} {w : World} {a n : Nat} {v : Value}
    (h : Calls P f args (w.drewN (a + n)) fun e w' => e = .returned v ∧ w' = w.drewN (a + n)) :
    Calls P f args (w.drewN (a + n)) fun e w'' => e = .returned v ∧ ∃ m, w'' = w.drewN (a + m) :=
  h.mono fun _ _ ⟨he, hm⟩ => ⟨he, n, hm⟩

def cntB (h : List Int) (out : Int) (i : Nat) (c : Cnt) : Bool := c.late || (!(out / 2 ^ i % 2 == 0) || inB (h[c.place.toNat]?.getD 0) c.lo c.hi)
def cntsG (h : List Int) (out : Int) : Nat → List Cnt → Bool
  | _, [] => true
  | i, c :: r => cntB h out i c && cntsG h out (i + 1) r
def isTruthB (cols : Int) (l : List Int) (sm : Int) (cs : List Cnt) (h : List Int) (out : Int) : Bool :=
  isListedB l h && (pairsG cols sm h h.length 0 && cntsG h out 0 cs)

theorem drop_cnt {cs : List Cnt} {i : Nat} {c : Cnt} (h : cs[i]? = some c) : cs.drop i = c :: cs.drop (i + 1) := by
  obtain ⟨hi, rfl⟩ := List.getElem?_eq_some_iff.1 h
  rw [List.drop_eq_getElem_cons hi]

set_option maxHeartbeats 40000000 in
set_option maxRecDepth 20000 in
theorem isTruth_any (r cc : Int) (p : Option Addr) (n c : Nat) (l : List Int) (sm : Int) (q : Option Addr) (m d : Nat) (cs : List Cnt) (t : Option Addr) (th : Nat) (h : List Int) (out : Int) (w : World) (hl : IntsAt w p n l) (hn : n ≤ 100)
    (hcs : CntsAt w q m cs) (hm : m ≤ 60) (hh : IntsAt w t n h) (hcc : 1 ≤ cc) (hcc' : cc ≤ 4) (ho : 0 ≤ out) (_ho' : out < 4096) (hsm : 0 ≤ sm) (hsm' : sm ≤ 9) (hHb : isListedB l h = true → ∀ x ∈ h, 0 ≤ x ∧ x ≤ 9)
    (hpl : ∀ x ∈ cs, 0 ≤ x.place ∧ x.place < n) :
    Calls Try.prog 53 #[.agg #[.int .i64 r, .int .i64 cc, .slice p n c, .int .i64 sm, .slice q m d], .slice t n th, .int .i64 out] w fun e w' => e = .returned (.bool (isTruthB cc l sm cs h out)) ∧ Below w.heap.size w w' := by
  have HL := hid hl
  have HH := hid hh
  have HCS := hid hcs
  have HHB := hid hHb
  have HPL := hid hpl
  have HI := hid (fun W (hW : Below w.heap.size w W) => isListed_any r cc p n c l t n th h W (hl.below hW) (hh.below hW) (by omega) (by omega))
  have HT : Hid (isTruthB cc l sm cs h out = (isListedB l h && (pairsG cc sm h n 0 && cntsG h out 0 cs))) := by show _ = _; rw [isTruthB, ← hh.1]
  clear hl hh hcs hHb hpl
  have hcc0 : ¬ cc = 0 := by omega
  go_enter Try.func53, Try.ntmps53
  cases h1 : isListedB l h
  · have HF : Hid (isTruthB cc l sm cs h out = false) := by show _ = _; rw [HT.out, h1]; rfl
    go_wp2_with (go_at_call 54; refine (HI.out _ ?_).mono ?_; exact (Below.refl _ _).alloc (Nat.le_refl _) _; rintro e w1 ⟨rfl, hb⟩)
    go_ret
    exact ⟨ret_bool HF.out.symm, ((Below.refl _ _).alloc (Nat.le_refl _) _).trans (hb.mono (by simp))⟩
  · go_wp2_with (go_at_call 54; refine (HI.out _ ?_).mono ?_; exact (Below.refl _ _).alloc (Nat.le_refl _) _; rintro e w1 ⟨rfl, hb⟩)
    have HB1 : Boxed1 w #[.int .i64 r, .int .i64 cc, .slice p n c, .int .i64 sm, .slice q m d] 27 w1 := hb.mono (by simp)
    clear hb
    go_loopw [7] (fun i wr => ∃ k : Nat, k ≤ n ∧ i = .int .i64 k ∧ pairsG cc sm h n k = pairsG cc sm h n 0 ∧ Boxed1 w #[.int .i64 r, .int .i64 cc, .slice p n c, .int .i64 sm, .slice q m d] 27 wr) (fun i _ => n - (intOf i).toNat)
    case atStart => exact ⟨0, by omega, rfl, rfl, HB1⟩
    case round =>
      clear HB1
      obtain ⟨k, hk, rfl, hr, HB⟩ := hrel
      have HR := hid hr
      clear hr
      by_cases hlt : k < n
      · have M0 := hid (allR_go (pairsI cc sm h n) k n hlt)
        go_wp2
        go_hide hQ
        obtain ⟨wo, rfl⟩ : ∃ wo : World, wo = wr := ⟨_, rfl⟩
        go_loopw [8] (fun i wr => ∃ j : Nat, k + 1 ≤ j ∧ j ≤ n ∧ i = .int .i64 j ∧ allR (nearB cc sm h k) j (n - j) = pairsI cc sm h n k ∧ Boxed1 w #[.int .i64 r, .int .i64 cc, .slice p n c, .int .i64 sm, .slice q m d] 27 wr) (fun i _ => n - (intOf i).toNat)
        case atStart => exact ⟨k + 1, by omega, by omega, by go_num, rfl, HB⟩
        case round =>
          clear HB
          obtain ⟨j, hj0, hj, rfl, hr, HB⟩ := hrel
          have HR2 := hid hr
          clear hr
          have hs1 := HB.cell 1 (v := .int .i64 cc) rfl
          have hs3 := HB.cell 3 (v := .int .i64 sm) rfl
          by_cases hltj : j < n
          · obtain ⟨b1, o1, rfl, hb1, hc0⟩ := HH.out.at hlt
            have hc1 := (HB.below.cell (p := ⟨b1, _, none⟩) hb1).trans hc0
            obtain ⟨b2, o2, e2, hb2, hc0'⟩ := HH.out.at hltj
            cases e2
            have hc2 := (HB.below.cell (p := ⟨b1, _, none⟩) hb1).trans hc0'
            clear hc0 hc0'
            have hk1 : (k : Int) / cc ≤ k := Int.ediv_le_self _ (by omega)
            have hk0 : 0 ≤ (k : Int) / cc := Int.ediv_nonneg (by omega) (by omega)
            have hj1' : (j : Int) / cc ≤ j := Int.ediv_le_self _ (by omega)
            have hj0' : 0 ≤ (j : Int) / cc := Int.ediv_nonneg (by omega) (by omega)
            obtain ⟨hx0, hx9⟩ := HHB.out h1 _ (getD_mem (l := h) (k := k) (by have := HH.out.1; omega))
            obtain ⟨hy0, hy9⟩ := HHB.out h1 _ (getD_mem (l := h) (k := j) (by have := HH.out.1; omega))
            have W1 := hid (IntWalk.i64_in ((k : Int) / cc) (by omega))
            have W2 := hid (IntWalk.i64_in ((j : Int) / cc) (by omega))
            have W3 := hid (IntWalk.i64_in ((k : Int) + 1) (by omega))
            have W4 := hid (IntWalk.i64_in (h[k]?.getD 0 - h[j]?.getD 0) (by omega))
            have W5 := hid (IntWalk.i64_in (-sm) (by omega))
            have N0 := hid (allR_go (nearB cc sm h k) j n hltj)
            go_wp2
            have w1 := W1.out
            have w2 := W2.out
            have w3 := W3.out
            cases hrow : ((k : Int) / cc == (j : Int) / cc)
            · go_quiet (fail)
              clear w1 w2 w3
              cases hcol : ((j : Int) == k + cc)
              · have HF : Hid (allR (nearB cc sm h k) (j + 1) (n - (j + 1)) = pairsI cc sm h n k) := by
                  show _ = _; rw [← HR2.out, N0.out]; simp [nearB, rowB, colB, hrow, hcol]
                go_wp2
                go_quiet (fail)
                go_wp2
                go_roundw
                case rel => exact ⟨j + 1, by omega, by omega, by go_num, HF.out, HB.drewN _⟩
                case measure => simp [intOf]; omega
              · go_wp2
                have w4 := W4.out
                have w5 := W5.out
                cases hin : inB (h[k]?.getD 0 - h[j]?.getD 0) (-sm) sm
                · have HF : Hid (isTruthB cc l sm cs h out = false) := by
                    show _ = _
                    have e : pairsI cc sm h n k = false := by rw [← HR2.out, N0.out]; simp [nearB, rowB, colB, hrow, hcol, hin]
                    have e2 : pairsG cc sm h n 0 = false := by rw [← HR.out, pairsG, M0.out, e]; rfl
                    rw [HT.out, e2]; simp
                  go_quiet ((go_at_call 26; exact quiet_add_same (in_any _ _ _ _)))
                  clear w4 w5
                  go_wp2
                  subst hQ
                  go_wp2
                  go_ret
                  exact ⟨ret_bool HF.out.symm, ((HB.drewN _).drewN _).below⟩
                · have HF : Hid (allR (nearB cc sm h k) (j + 1) (n - (j + 1)) = pairsI cc sm h n k) := by
                    show _ = _; rw [← HR2.out, N0.out]; simp [nearB, rowB, colB, hrow, hcol, hin]
                  go_quiet ((go_at_call 26; exact quiet_add_same (in_any _ _ _ _)))
                  clear w4 w5
                  go_wp2
                  go_roundw
                  case rel => exact ⟨j + 1, by omega, by omega, by go_num, HF.out, HB.drewN _⟩
                  case measure => simp [intOf]; omega
            · cases hj1 : ((j : Int) == (k : Int) + 1)
              · go_quiet (fail)
                clear w1 w2 w3
                cases hcol : ((j : Int) == k + cc)
                · have HF : Hid (allR (nearB cc sm h k) (j + 1) (n - (j + 1)) = pairsI cc sm h n k) := by
                    show _ = _; rw [← HR2.out, N0.out]; simp [nearB, rowB, colB, hrow, hj1, hcol]
                  go_wp2
                  go_quiet (fail)
                  go_wp2
                  go_roundw
                  case rel => exact ⟨j + 1, by omega, by omega, by go_num, HF.out, HB.drewN _⟩
                  case measure => simp [intOf]; omega
                · go_wp2
                  have w4 := W4.out
                  have w5 := W5.out
                  cases hin : inB (h[k]?.getD 0 - h[j]?.getD 0) (-sm) sm
                  · have HF : Hid (isTruthB cc l sm cs h out = false) := by
                      show _ = _
                      have e : pairsI cc sm h n k = false := by rw [← HR2.out, N0.out]; simp [nearB, rowB, colB, hrow, hj1, hcol, hin]
                      have e2 : pairsG cc sm h n 0 = false := by rw [← HR.out, pairsG, M0.out, e]; rfl
                      rw [HT.out, e2]; simp
                    go_quiet ((go_at_call 26; exact quiet_add_same (in_any _ _ _ _)))
                    clear w4 w5
                    go_wp2
                    subst hQ
                    go_wp2
                    go_ret
                    exact ⟨ret_bool HF.out.symm, ((HB.drewN _).drewN _).below⟩
                  · have HF : Hid (allR (nearB cc sm h k) (j + 1) (n - (j + 1)) = pairsI cc sm h n k) := by
                      show _ = _; rw [← HR2.out, N0.out]; simp [nearB, rowB, colB, hrow, hj1, hcol, hin]
                    go_quiet ((go_at_call 26; exact quiet_add_same (in_any _ _ _ _)))
                    clear w4 w5
                    go_wp2
                    go_roundw
                    case rel => exact ⟨j + 1, by omega, by omega, by go_num, HF.out, HB.drewN _⟩
                    case measure => simp [intOf]; omega
              · go_quiet (fail)
                clear w1 w2 w3
                go_wp2
                have w4 := W4.out
                have w5 := W5.out
                cases hin : inB (h[k]?.getD 0 - h[j]?.getD 0) (-sm) sm
                · have HF : Hid (isTruthB cc l sm cs h out = false) := by
                    show _ = _
                    have e : pairsI cc sm h n k = false := by rw [← HR2.out, N0.out]; simp [nearB, rowB, colB, hrow, hj1, hin]
                    have e2 : pairsG cc sm h n 0 = false := by rw [← HR.out, pairsG, M0.out, e]; rfl
                    rw [HT.out, e2]; simp
                  go_quiet ((go_at_call 26; exact quiet_add_same (in_any _ _ _ _)))
                  clear w4 w5
                  go_wp2
                  subst hQ
                  go_wp2
                  go_ret
                  exact ⟨ret_bool HF.out.symm, ((HB.drewN _).drewN _).below⟩
                · have HF : Hid (allR (nearB cc sm h k) (j + 1) (n - (j + 1)) = pairsI cc sm h n k) := by
                    show _ = _; rw [← HR2.out, N0.out]; simp [nearB, rowB, colB, hrow, hj1, hin]
                  go_quiet ((go_at_call 26; exact quiet_add_same (in_any _ _ _ _)))
                  clear w4 w5
                  go_wp2
                  go_roundw
                  case rel => exact ⟨j + 1, by omega, by omega, by go_num, HF.out, HB.drewN _⟩
                  case measure => simp [intOf]; omega
          · have hjn : j = n := by omega
            have HF : Hid (pairsI cc sm h n k = true) := by show _ = _; rw [← HR2.out, allR_end _ _ _ hltj]
            have HF2 : Hid (pairsG cc sm h n (k + 1) = pairsG cc sm h n 0) := by show _ = _; rw [← HR.out, pairsG, pairsG, M0.out, HF.out, Bool.true_and]
            clear hjn
            go_wp2
            subst hQ
            go_wp2
            go_roundw
            case rel => exact ⟨k + 1, by omega, by go_num, HF2.out, HB⟩
            case measure => simp [intOf]; omega
      · have HP : Hid (pairsG cc sm h n 0 = true) := by show _ = _; rw [← HR.out, pairsG, allR_end _ _ _ hlt]
        go_wp2
        obtain ⟨wo, rfl⟩ : ∃ wo : World, wo = wr := ⟨_, rfl⟩
        go_loopw [11] (fun i wr => ∃ j : Nat, j ≤ m ∧ i = .int .i64 j ∧ cntsG h out j (cs.drop j) = cntsG h out 0 cs ∧ Boxed1 w #[.int .i64 r, .int .i64 cc, .slice p n c, .int .i64 sm, .slice q m d] 27 wr) (fun i _ => m - (intOf i).toNat)
        case atStart => exact ⟨0, by omega, rfl, rfl, HB⟩
        case round =>
          clear HB
          obtain ⟨j, hj, rfl, hr, HB⟩ := hrel
          have HR2 := hid hr
          clear hr
          have hs4 := HB.cell 4 (v := .slice q m d) rfl
          by_cases hltj : j < m
          · obtain ⟨x, hx, b1, o1, rfl, hb1, hc0, hc1, hc2, hc3⟩ := (HCS.out.below HB.below).at hltj
            have HX := hid hx
            have HD := hid (drop_cnt hx)
            clear hx
            obtain ⟨hp0, hp1⟩ := HPL.out x (List.mem_of_getElem? HX.out)
            obtain ⟨pl, hpl⟩ : ∃ pl : Nat, x.place = pl := ⟨x.place.toNat, by omega⟩
            rw [hpl] at hc0 hp0 hp1
            have hpn : pl < n := by omega
            have HPl := hid (show x.place.toNat = pl by omega)
            clear hpl
            obtain ⟨b2, o2, rfl, hb2, hd0⟩ := (HH.out.below HB.below).at hpn
            cases hlate : x.late
            · rw [hlate] at hc3
              have hnn : 0 ≤ out / 2 ^ j := Int.ediv_nonneg ho (Int.le_of_lt (Int.pow_pos (by omega)))
              have T1 : (out / 2 ^ j).tmod 2 = out / 2 ^ j % 2 := Int.tmod_eq_emod_of_nonneg hnn
              cases hbit : (out / 2 ^ j % 2 == 0)
              · have HF : Hid (cntsG h out (j + 1) (cs.drop (j + 1)) = cntsG h out 0 cs) := by
                  show _ = _; rw [← HR2.out, HD.out, cntsG]; simp [cntB, hlate, hbit]
                go_wp2
                go_quiet (fail)
                go_wp2
                go_roundw
                case rel => exact ⟨j + 1, by omega, by go_num, HF.out, (HB.alloc _).drewN _⟩
                case measure => simp [intOf]; omega
              · cases hin : inB (h[pl]?.getD 0) x.lo x.hi
                · have HF : Hid (isTruthB cc l sm cs h out = false) := by
                    show _ = _; rw [HT.out, ← HR2.out, HD.out, cntsG]; simp [cntB, hlate, hbit, HPl.out, hin]
                  go_wp2
                  go_quiet ((go_at_call 26; exact Calls.quiet_of_same (in_any _ _ _ _)))
                  go_wp2
                  go_ret
                  exact ⟨ret_bool HF.out.symm, ((HB.alloc _).drewN _).below⟩
                · have HF : Hid (cntsG h out (j + 1) (cs.drop (j + 1)) = cntsG h out 0 cs) := by
                    show _ = _; rw [← HR2.out, HD.out, cntsG]; simp [cntB, HPl.out, hin]
                  go_wp2
                  go_quiet ((go_at_call 26; exact Calls.quiet_of_same (in_any _ _ _ _)))
                  go_wp2
                  go_roundw
                  case rel => exact ⟨j + 1, by omega, by go_num, HF.out, (HB.alloc _).drewN _⟩
                  case measure => simp [intOf]; omega
            · rw [hlate] at hc3
              have HF : Hid (cntsG h out (j + 1) (cs.drop (j + 1)) = cntsG h out 0 cs) := by
                show _ = _; rw [← HR2.out, HD.out, cntsG]; simp [cntB, hlate]
              go_wp2
              go_quiet (fail)
              go_wp2
              go_roundw
              case rel => exact ⟨j + 1, by omega, by go_num, HF.out, (HB.alloc _).drewN _⟩
              case measure => simp [intOf]; omega
          · have HF : Hid (isTruthB cc l sm cs h out = true) := by
              show _ = _; rw [HT.out, h1, HP.out, ← HR2.out, List.drop_of_length_le (by have := HCS.out.1; omega)]; rfl
            go_wp2
            go_ret
            exact ⟨ret_bool HF.out.symm, HB.below⟩
end Go.Proofs.Ytlicijnaacdceaa

/- Walks over package hailstoneref03, part G: IsLot, Verdict, Fault. -/
namespace Go.Proofs.Ytlicijnaacdceaa
open Go.RowKit

def isLotB (n : Nat) (seed step draws : Int) : Bool := inB seed 0 9999 && (inB step 0 9999 && (inB draws 0 6 && decide (draws ≤ n)))

set_option maxHeartbeats 1000000 in
theorem isLot_any (r cc : Int) (p : Option Addr) (n c : Nat) (seed step draws : Int) (w : World) :
    Calls Try.prog 62 #[.agg #[.int .i64 r, .int .i64 cc, .slice p n c], .agg #[.int .i64 seed, .int .i64 step, .int .i64 draws]] w fun e w' => e = .returned (.bool (isLotB n seed step draws)) ∧ Below w.heap.size w w' := by
  have HF := hid (show isLotB n seed step draws = (inB seed 0 9999 && (inB step 0 9999 && (inB draws 0 6 && decide (draws ≤ n)))) from rfl)
  cases h1 : inB seed 0 9999
  · go_enter Try.func62, Try.ntmps62
    go_wp2_with (go_at_call 26; refine (in_any _ _ _ _).mono ?_; rintro e w' ⟨rfl, rfl⟩)
    go_ret
    exact ⟨ret_bool (by rw [HF.out, h1]; rfl), ((Below.refl _ _).alloc (Nat.le_refl _) _).alloc (by simp) _⟩
  · cases h2 : inB step 0 9999
    · go_enter Try.func62, Try.ntmps62
      go_wp2_with (go_at_call 26; refine (in_any _ _ _ _).mono ?_; rintro e w' ⟨rfl, rfl⟩)
      go_ret
      exact ⟨ret_bool (by rw [HF.out, h1, h2]; rfl), ((Below.refl _ _).alloc (Nat.le_refl _) _).alloc (by simp) _⟩
    · cases h3 : inB draws 0 6
      · go_enter Try.func62, Try.ntmps62
        go_wp2_with (go_at_call 26; refine (in_any _ _ _ _).mono ?_; rintro e w' ⟨rfl, rfl⟩)
        go_ret
        exact ⟨ret_bool (by rw [HF.out, h1, h2, h3]; rfl), ((Below.refl _ _).alloc (Nat.le_refl _) _).alloc (by simp) _⟩
      · go_enter Try.func62, Try.ntmps62
        go_wp2_with (go_at_call 26; refine (in_any _ _ _ _).mono ?_; rintro e w' ⟨rfl, rfl⟩)
        go_ret
        exact ⟨ret_bool (by rw [HF.out, h1, h2, h3]; rfl), ((Below.refl _ _).alloc (Nat.le_refl _) _).alloc (by simp) _⟩

def verdictL (lo hi part : Int) : Int := if part ≤ lo then 1 else if hi < part then 2 else 3

set_option maxHeartbeats 400000 in
theorem verdict_any (lo hi part : Int) (w : World) :
    Calls Try.prog 27 #[.agg #[.int .i64 lo, .int .i64 hi], .int .i64 part] w fun e w' => e = .returned (.int .i64 (verdictL lo hi part)) ∧ Below w.heap.size w w' := by
  have HF := hid (show verdictL lo hi part = if part ≤ lo then 1 else if hi < part then 2 else 3 from rfl)
  go_enter Try.func27, Try.ntmps27
  by_cases h1 : part ≤ lo
  · go_wp2
    go_ret
    exact ⟨ret_int (by rw [HF.out, if_pos h1]), (Below.refl _ _).alloc (Nat.le_refl _) _⟩
  · by_cases h2 : hi < part
    · go_wp2
      go_ret
      exact ⟨ret_int (by rw [HF.out, if_neg (by omega), if_pos h2]), (Below.refl _ _).alloc (Nat.le_refl _) _⟩
    · go_wp2
      go_ret
      exact ⟨ret_int (by rw [HF.out, if_neg (by omega), if_neg (by omega)]), (Below.refl _ _).alloc (Nat.le_refl _) _⟩

def cntOkB (n : Nat) (c : Cnt) : Bool := inB c.place 0 ((n : Int) - 1) && (inB c.lo 0 c.hi && !decide (9 < c.hi))
/-- The error of a survey. -/
def faultL (r cc : Int) (l : List Int) (sm : Int) (cs : List Cnt) : Int :=
  if 6 < cs.length then 3 else if (isFieldB r cc l && inB sm 0 9) = false then 1 else if cs.all (cntOkB l.length) = false then 1 else if 2000 < manyL l then 3 else 0

theorem field_facts {r cc : Int} {l : List Int} (h : isFieldB r cc l = true) : 1 ≤ r ∧ r ≤ 4 ∧ 1 ≤ cc ∧ cc ≤ 4 ∧ (l.length : Int) = r * cc ∧ 1 ≤ l.length ∧ l.length ≤ 9 ∧ ∀ x ∈ l, 0 ≤ x ∧ x ≤ 9 := by
  simp only [isFieldB, Bool.and_eq_true, decide_eq_true_eq, List.all_eq_true] at h
  obtain ⟨h1, h2, h3, h4, h5⟩ := h
  obtain ⟨a, b⟩ := prod_bd h1 h2
  simp only [inB, Bool.and_eq_true, decide_eq_true_eq] at h1 h2 h5
  exact ⟨h1.1, h1.2, h2.1, h2.2, h4, by omega, by omega, h5⟩

set_option maxHeartbeats 4000000 in
set_option maxRecDepth 20000 in
theorem fault_any (r cc : Int) (p : Option Addr) (n c : Nat) (l : List Int) (sm : Int) (q : Option Addr) (m d : Nat) (cs : List Cnt) (w : World) (hl : IntsAt w p n l) (hcs : CntsAt w q m cs) (hn : n ≤ 100) (hm : m ≤ 100) :
    Calls Try.prog 79 #[.agg #[.int .i64 r, .int .i64 cc, .slice p n c, .int .i64 sm, .slice q m d]] w fun e w' => e = .returned (.int .i64 (faultL r cc l sm cs)) ∧ Below w.heap.size w w' := by
  have HF := hid (show faultL r cc l sm cs = if 6 < m then 3 else if (isFieldB r cc l && inB sm 0 9) = false then 1 else if cs.all (cntOkB n) = false then 1 else if 2000 < manyL l then 3 else 0 by rw [faultL, ← hl.1, ← hcs.1])
  have HI := hid (fun W (hW : Below w.heap.size w W) => isField_any r cc p n c l W (hl.below hW) (by omega))
  have HL := hid hl
  have HCS := hid hcs
  clear hl hcs
  by_cases h6 : 6 < m
  · go_enter Try.func79, Try.ntmps79
    go_wp2
    go_ret
    exact ⟨ret_int (by rw [HF.out, if_pos h6]), (Below.refl _ _).alloc (Nat.le_refl _) _⟩
  · cases h1 : isFieldB r cc l
    · go_enter Try.func79, Try.ntmps79
      go_wp2_with (go_at_call 60; refine (HI.out _ ?_).mono ?_; exact (Below.refl _ _).alloc (Nat.le_refl _) _; rintro e w1 ⟨rfl, hb⟩)
      go_ret
      exact ⟨ret_int (by rw [HF.out, if_neg h6, h1]; rfl), (Boxed1.below (Below.mono hb (by simp)))⟩
    · cases h2 : inB sm 0 9
      · go_enter Try.func79, Try.ntmps79
        go_wp2_with fail
        refine (HI.out _ ((Below.refl _ _).alloc (Nat.le_refl _) _)).mono ?_
        rintro e w1 ⟨rfl, hb⟩
        have HB : Boxed1 w #[.int .i64 r, .int .i64 cc, .slice p n c, .int .i64 sm, .slice q m d] 27 w1 := hb.mono (by simp)
        have hs3 := HB.cell 3 (v := .int .i64 sm) rfl
        clear hb
        rw [h1]
        go_wp2_with (go_at_call 26; refine (in_any _ _ _ _).mono ?_; rintro e w' ⟨rfl, rfl⟩)
        go_ret
        exact ⟨ret_int (by rw [HF.out, if_neg h6, h1, h2]; rfl), HB.below⟩
      · obtain ⟨f1, f2, f3, f4, f5, f6, f7, f8⟩ := field_facts h1
        have HM := hid (fun W (hW : Below w.heap.size w W) => many_any r cc p n c l W (HL.out.below hW) hn f8)
        clear f1 f2 f3 f4 f5 f8
        go_enter Try.func79, Try.ntmps79
        go_wp2_with fail
        refine (HI.out _ ((Below.refl _ _).alloc (Nat.le_refl _) _)).mono ?_
        rintro e w1 ⟨rfl, hb⟩
        have HB : Boxed1 w #[.int .i64 r, .int .i64 cc, .slice p n c, .int .i64 sm, .slice q m d] 27 w1 := hb.mono (by simp)
        have hs3 := HB.cell 3 (v := .int .i64 sm) rfl
        clear hb
        rw [h1]
        go_wp2_with (go_at_call 26; refine (in_any _ _ _ _).mono ?_; rintro e w' ⟨rfl, rfl⟩)
        clear hs3
        go_loopw [3] (fun i wr => ∃ j : Nat, j ≤ m ∧ i = .int .i64 j ∧ (cs.drop j).all (cntOkB n) = cs.all (cntOkB n) ∧ Boxed1 w #[.int .i64 r, .int .i64 cc, .slice p n c, .int .i64 sm, .slice q m d] 27 wr) (fun i _ => m - (intOf i).toNat)
        case atStart => exact ⟨0, by omega, rfl, rfl, HB⟩
        case round =>
          clear HB
          obtain ⟨j, hj, rfl, hr, HB⟩ := hrel
          have HR2 := hid hr
          clear hr
          have hs4 := HB.cell 4 (v := .slice q m d) rfl
          have hs2 := HB.cell 2 (v := .slice p n c) rfl
          have hs0 := HB.cell 0 (v := .int .i64 r) rfl
          have hs1 := HB.cell 1 (v := .int .i64 cc) rfl
          have hsz : w.heap.size < wr.heap.size := by have := HB.size; omega
          by_cases hltj : j < m
          · obtain ⟨x, hx, b1, o1, rfl, hb1, hc0, hc1, hc2, hc3⟩ := (HCS.out.below HB.below).at hltj
            have HD := hid (drop_cnt hx)
            clear hx
            cases ha : inB x.place 0 ((n : Int) - 1)
            · have HG : Hid (cs.all (cntOkB n) = false) := by show _ = _; rw [← HR2.out, HD.out]; simp [cntOkB, ha]
              go_wp2_with (go_at_call 26; refine (in_any _ _ _ _).mono ?_; rintro e w' ⟨rfl, rfl⟩)
              go_ret
              exact ⟨ret_int (by rw [HF.out, if_neg h6, h1, h2, HG.out]; rfl), (HB.alloc _).below⟩
            · cases hbb : inB x.lo 0 x.hi
              · have HG : Hid (cs.all (cntOkB n) = false) := by show _ = _; rw [← HR2.out, HD.out]; simp [cntOkB, hbb]
                go_wp2_with (go_at_call 26; refine (in_any _ _ _ _).mono ?_; rintro e w' ⟨rfl, rfl⟩)
                go_ret
                exact ⟨ret_int (by rw [HF.out, if_neg h6, h1, h2, HG.out]; rfl), (HB.alloc _).below⟩
              · by_cases h9 : 9 < x.hi
                · have HG : Hid (cs.all (cntOkB n) = false) := by show _ = _; rw [← HR2.out, HD.out]; simp [cntOkB, h9]
                  go_wp2_with (go_at_call 26; refine (in_any _ _ _ _).mono ?_; rintro e w' ⟨rfl, rfl⟩)
                  go_ret
                  exact ⟨ret_int (by rw [HF.out, if_neg h6, h1, h2, HG.out]; rfl), (HB.alloc _).below⟩
                · have HG : Hid ((cs.drop (j + 1)).all (cntOkB n) = cs.all (cntOkB n)) := by show _ = _; rw [← HR2.out, HD.out]; simp [cntOkB, ha, hbb, h9]
                  go_wp2_with (go_at_call 26; refine (in_any _ _ _ _).mono ?_; rintro e w' ⟨rfl, rfl⟩)
                  go_roundw
                  case rel => exact ⟨j + 1, by omega, by go_num, HG.out, HB.alloc _⟩
                  case measure => simp [intOf]; omega
          · have HG : Hid (cs.all (cntOkB n) = true) := by show _ = _; rw [← HR2.out, List.drop_of_length_le (by have := HCS.out.1; omega)]; rfl
            by_cases h7 : 2000 < manyL l
            · go_wp2_with (go_at_call 46; refine (HM.out _ ?_).mono ?_; exact HB.below; rintro e w1 ⟨rfl, hb⟩)
              go_ret
              exact ⟨ret_int (by rw [HF.out, if_neg h6, h1, h2, HG.out, if_pos h7]; rfl), (HB.step hb).below⟩
            · go_wp2_with (go_at_call 46; refine (HM.out _ ?_).mono ?_; exact HB.below; rintro e w1 ⟨rfl, hb⟩)
              go_ret
              exact ⟨ret_int (by rw [HF.out, if_neg h6, h1, h2, HG.out]; simp; omega), (HB.step hb).below⟩
end Go.Proofs.Ytlicijnaacdceaa
