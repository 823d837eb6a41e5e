/- The program: right, and the iterator over truths -/
import Derived.Test.YtlicijnaacdceaaProG
import Derived.Test.YtlicijnaacdceaaRanA
import Derived.StillTailTactics
import Derived.Shelf.Abstract
import Derived.OwnWalkIn
import Derived.TacticsInMore
import Derived.LoopNIn
import Derived.LoopIn
/- Right of the program. -/
namespace Go.Proofs.Ytlicijnaacdceaa
open Go.RowKit

theorem wpList_put {ops : Array Oper} {rest : List Oper} {o : Oper} {a : Act} {w W' : World} {Q : Exit → Act → World → Prop} (hg : o.guard = none) (m x v : Operand) (t : TypeId) (hop : o.op = Op.mapUpdate t m x v) (b : Nat) (key val : Value)
    (hm : a.eval m = .map (some b)) (hx : a.eval x = key) (hv : a.eval v = val) (hrun : (Instr.mapUpdate t (.map (some b)) key val).run Try.prog w = .ok () W') (hK : wpList Try.prog ops Q rest (a.put o.dst undef) W') :
    wpList Try.prog ops Q (o :: rest) a w := by
  refine wpList_plain hg fun K' hK' => ?_
  unfold Oper.wp
  simp [execOp, hop, hm, hx, hv, hrun, Result.andThen]
  exact hK' _ _ hK

theorem MapIs.more {W : World} {k b n n' : Nat} {M : Value → Option Bool} (h : MapIs W k b n M) (hn : n ≤ n') : MapIs W k b n' M := by
  obtain ⟨es, clock, h1, h2, h3, r⟩ := h
  exact ⟨es, clock, h1, h2, by omega, r⟩

def spotV (a b : Int) : Value := .agg #[.int .i64 a, .int .i64 b]
/-- Whether all counts of a place, from one on, are right with some hits. -/
def rightG (out : List Int) (p h : Int) : Int → List Cnt → Bool
  | _, [] => true
  | i, c :: r => (if (c.place == p && (!c.late && !hasB out i)) = true then inB h c.lo c.hi else true) && rightG out p h (i + 1) r
def rightB (cs : List Cnt) (out : List Int) (p h : Int) : Bool := rightG out p h 0 cs
/-- What is known is so. -/
def Knows (cs : List Cnt) (out : List Int) (M : Value → Option Bool) : Prop := ∀ a b v, M (spotV a b) = some v → v = rightB cs out a b

theorem Knows.upd {cs : List Cnt} {out : List Int} {M : Value → Option Bool} (h : Knows cs out M) (a b : Int) : Knows cs out (updM M (spotV a b) (rightB cs out a b)) := by
  intro a' b' v hv
  unfold updM at hv
  split at hv
  · rename_i e
    simp [spotV] at e
    rw [e.1, e.2]
    exact (Option.some.inj hv).symm
  · exact h a' b' v hv

/-- A survey at work, in block b, with the slice of what is left out and the map of what is known. -/
structure WorkAt (W : World) (b : Nat) (r cc : Int) (p : Option Addr) (n c : Nat) (sm : Int) (q : Option Addr) (m d : Nat) (po : Option Addr) (no co : Nat) (bm : Nat) : Prop where
  c0 : W.cell? ⟨b, 0, none⟩ = some (.int .i64 r)
  c1 : W.cell? ⟨b, 1, none⟩ = some (.int .i64 cc)
  c2 : W.cell? ⟨b, 2, none⟩ = some (.slice p n c)
  c3 : W.cell? ⟨b, 3, none⟩ = some (.int .i64 sm)
  c4 : W.cell? ⟨b, 4, none⟩ = some (.slice q m d)
  c5 : W.cell? ⟨b, 5, none⟩ = some (.slice po no co)
  c6 : W.cell? ⟨b, 6, none⟩ = some (.map (some bm))

theorem WorkAt.lt {W : World} {b : Nat} {r cc : Int} {p : Option Addr} {n c : Nat} {sm : Int} {q : Option Addr} {m d : Nat} {po : Option Addr} {no co bm : Nat} (h : WorkAt W b r cc p n c sm q m d po no co bm) : b < W.heap.size := World.block_lt_of_cell? W _ h.c0
theorem WorkAt.kept {W W' : World} {b : Nat} {r cc : Int} {p : Option Addr} {n c : Nat} {sm : Int} {q : Option Addr} {m d : Nat} {po : Option Addr} {no co bm : Nat} (h : WorkAt W b r cc p n c sm q m d po no co bm) (hb : W'.heap[b]? = W.heap[b]?) : WorkAt W' b r cc p n c sm q m d po no co bm :=
  ⟨(World.cell?_of_block hb).trans h.c0, (World.cell?_of_block hb).trans h.c1, (World.cell?_of_block hb).trans h.c2, (World.cell?_of_block hb).trans h.c3, (World.cell?_of_block hb).trans h.c4, (World.cell?_of_block hb).trans h.c5, (World.cell?_of_block hb).trans h.c6⟩
theorem WorkAt.below {W W' : World} {b : Nat} {r cc : Int} {p : Option Addr} {n c : Nat} {sm : Int} {q : Option Addr} {m d : Nat} {po : Option Addr} {no co bm : Nat} (h : WorkAt W b r cc p n c sm q m d po no co bm) (hb : Below W.heap.size W W') : WorkAt W' b r cc p n c sm q m d po no co bm := h.kept (hb.block _ h.lt)

theorem Try.und139 : Try.prog.underlying 139 = some (.map 145 4) := by kernel_rfl

set_option maxRecDepth 40000 in
set_option maxHeartbeats 8000000 in
theorem right_any (b : Nat) (r cc : Int) (p : Option Addr) (n c : Nat) (sm : Int) (q : Option Addr) (m d : Nat) (cs : List Cnt) (po : Option Addr) (no co : Nat) (outl : List Int) (bm nn : Nat) (M : Value → Option Bool) (k x : Int) (w : World)
    (hw : WorkAt w b r cc p n c sm q m d po no co bm) (hcs : CntsAt w q m cs) (ho : IntsAt w po no outl) (hm : m ≤ 1000000) (hno : no ≤ 1000000) (hM : MapIs w 145 bm nn M) (hK : Knows cs outl M) (hnn : nn < maxLen) (hk : -1000000 ≤ k ∧ k ≤ 1000000) (hx : -1000000 ≤ x ∧ x ≤ 1000000) :
    Calls Try.prog 97 #[.pointer (some ⟨b, 0, none⟩), .agg #[.int .i64 k, .int .i64 x]] w fun e w' => e = .returned (.bool (rightB cs outl k x)) ∧ ∃ M', MapIs w' 145 bm (nn + 1) M' ∧ Knows cs outl M' ∧ Near (fun i => i = bm) w w' := by
  obtain ⟨kl, hkl⟩ := key_spot k x hk hx
  obtain ⟨W, hW⟩ : ∃ W, w.alloc (.cells #[.int .i64 k, .int .i64 x] 145) = W := ⟨_, rfl⟩
  have hbW : Below w.heap.size w W := by rw [← hW]; exact (Below.refl _ _).alloc (Nat.le_refl _) _
  have hMW := hM.below hbW
  have hlook : ∀ a, (Instr.lookup 139 (.map (some bm)) (.agg #[.int .i64 k, .int .i64 x]) true).run Try.prog (W.drewN a) = .ok (.tuple #[.bool ((M (spotV k x)).getD false), .bool (M (spotV k x)).isSome]) (W.drewN a) := fun a =>
    (hMW.below (below_drewN (Below.refl _ _) a)).look Try.key145 Try.und139 hkl
  have hs0 : W.cell? ⟨w.heap.size, 0, none⟩ = some (.int .i64 k) := by rw [← hW]; exact cell_box _ _ _ 0 _ rfl
  have hs1 : W.cell? ⟨w.heap.size, 1, none⟩ = some (.int .i64 x) := by rw [← hW]; exact cell_box _ _ _ 1 _ rfl
  have HWA := hid (hw.below hbW)
  have hc6 := HWA.out.c6
  have HCS := hid (hcs.below hbW)
  have HO := hid (ho.below hbW)
  have HM := hid hMW
  have HK := hid hK
  have HBW := hid hbW
  have hsz : W.heap.size = w.heap.size + 1 := by rw [← hW]; simp
  have HSZ := hid hsz
  have hbm := hM.lt
  clear hw hcs ho hM hMW hK hbW hsz
  cases hMk : M (spotV k x) with
  | some v =>
    rw [hMk] at hlook
    simp only [Option.getD_some, Option.isSome_some] at hlook
    have hv := HK.out k x v hMk
    subst hv
    generalize hR : rightB cs outl k x = R at *
    clear hMk
    go_enter Try.func97, Try.ntmps97
    go_wp2_with fail
    go_quiet (fail)
    go_wp2
    go_ret
    refine ⟨rfl, M, (HM.out.below (below_drewN (Below.refl _ _) _)).more (by omega), HK.out, Near.of_below (below_drewN HBW.out _) (fun i h1 h2 => by omega)⟩
  | none =>
    rw [hMk] at hlook
    simp only [Option.getD_none, Option.isSome_none] at hlook
    clear hMk
    go_enter Try.func97, Try.ntmps97
    go_wp2_with fail
    go_quiet (fail)
    obtain ⟨W1, hW1⟩ : ∃ W1, W.drewN nq = W1 := ⟨_, rfl⟩
    have hb1 : Below W.heap.size W W1 := by rw [← hW1]; exact below_drewN (Below.refl _ _) _
    have HWA1 := hid (HWA.out.below hb1)
    have HCS1 := hid (HCS.out.below hb1)
    have HO1 := hid (HO.out.below hb1)
    have HM1 := hid (HM.out.below hb1)
    have hs0' : W1.cell? ⟨w.heap.size, 0, none⟩ = some (.int .i64 k) := (hb1.cell (p := ⟨w.heap.size, 0, none⟩) (by have := HSZ.out; show w.heap.size < _; omega)).trans hs0
    have hs1' : W1.cell? ⟨w.heap.size, 1, none⟩ = some (.int .i64 x) := (hb1.cell (p := ⟨w.heap.size, 1, none⟩) (by have := HSZ.out; show w.heap.size < _; omega)).trans hs1
    have hc4' := HWA1.out.c4
    have HB1 := hid (HBW.out.trans (hb1.mono (by have := HSZ.out; omega)))
    have hsz1 := hb1.size
    have HSZ1 : Hid (w.heap.size + 1 ≤ W1.heap.size) := by show _ ≤ _; have := HSZ.out; omega
    have HS0 := hid hs0'
    have HS1 := hid hs1'
    rw [hW1]
    clear hlook hs0 hs1 hc6 HWA HCS HO HM HBW hb1 hsz1 hW HSZ hW1
    clear W
    go_wp2_with fail
    go_loopw [5, 26] (fun u i wr => ∃ (j : Nat) (z : Bool), j ≤ m ∧ i = .int .i64 j ∧ u = .bool z ∧ (z && rightG outl k x j (cs.drop j)) = rightB cs outl k x ∧ Below W1.heap.size W1 wr) (fun _ i _ => m - (intOf i).toNat)
    case atStart => exact ⟨0, true, by omega, rfl, rfl, rfl, Below.refl _ _⟩
    case round =>
      clear hs0' hs1' hc4'
      obtain ⟨j, z, hj, rfl, rfl, hr, hb⟩ := hrel
      have HR := hid hr
      clear hr
      by_cases hlt : j < m
      · obtain ⟨y, hy, b1, o1, rfl, hb1, hc0, hc1, hc2, hc3⟩ := (HCS1.out.below hb).at hlt
        have HD := hid (drop_cnt hy)
        clear hy
        obtain ⟨W2, hW2⟩ : ∃ W2, wr.alloc (.cells #[.int .i64 y.place, .int .i64 y.lo, .int .i64 y.hi, .bool y.late] 101) = W2 := ⟨_, rfl⟩
        have hb2 : Below wr.heap.size wr W2 := by rw [← hW2]; exact (Below.refl _ _).alloc (Nat.le_refl _) _
        have hd0 : W2.cell? ⟨wr.heap.size, 0, none⟩ = some (.int .i64 y.place) := by rw [← hW2]; exact cell_box _ _ _ 0 _ rfl
        have hd1 : W2.cell? ⟨wr.heap.size, 1, none⟩ = some (.int .i64 y.lo) := by rw [← hW2]; exact cell_box _ _ _ 1 _ rfl
        have hd2 : W2.cell? ⟨wr.heap.size, 2, none⟩ = some (.int .i64 y.hi) := by rw [← hW2]; exact cell_box _ _ _ 2 _ rfl
        have hd3 : W2.cell? ⟨wr.heap.size, 3, none⟩ = some (.bool y.late) := by rw [← hW2]; exact cell_box _ _ _ 3 _ rfl
        have hbb : Below W1.heap.size W1 W2 := hb.trans (hb2.mono hb.size)
        have hs0 : W2.cell? ⟨w.heap.size, 0, none⟩ = some (.int .i64 k) := (hbb.cell (p := ⟨w.heap.size, 0, none⟩) (World.block_lt_of_cell? _ _ HS0.out)).trans HS0.out
        have hs1 : W2.cell? ⟨w.heap.size, 1, none⟩ = some (.int .i64 x) := (hbb.cell (p := ⟨w.heap.size, 1, none⟩) (World.block_lt_of_cell? _ _ HS1.out)).trans HS1.out
        have hc5 := (HWA1.out.below hbb).c5
        have HO2 := hid (HO1.out.below hbb)
        have HBB := hid hbb
        have hjm : (j : Int) ≤ 1000000 := by omega
        clear hb2 hbb
        cases hp : (y.place == k)
        · have HF : Hid ((z && rightG outl k x ((j + 1 : Nat) : Int) (cs.drop (j + 1))) = rightB cs outl k x) := by show _ = _; rw [← HR.out, HD.out, rightG, hp]; simp
          go_wp2_with fail
          go_roundw
          case rel => exact ⟨j + 1, z, by omega, by go_num, rfl, HF.out, HBB.out⟩
          case measure => simp [intOf]; omega
        · cases hl : y.late
          · have HL := hid hl
            rw [hl] at hd3
            clear hl
            go_wp2_with fail
            refine (contains_any _ _ _ outl j _ HO2.out hno).mono ?_
            rintro e w' ⟨rfl, rfl⟩
            cases ho : hasB outl j
            · cases z
              · have HF : Hid ((false && rightG outl k x ((j + 1 : Nat) : Int) (cs.drop (j + 1))) = rightB cs outl k x) := by show _ = _; rw [← HR.out]; simp
                go_wp2_with fail
                go_roundw
                case rel => exact ⟨j + 1, false, by omega, by go_num, rfl, HF.out, HBB.out⟩
                case measure => simp [intOf]; omega
              · have HF : Hid ((inB x y.lo y.hi && rightG outl k x ((j + 1 : Nat) : Int) (cs.drop (j + 1))) = rightB cs outl k x) := by show _ = _; rw [← HR.out, HD.out, rightG, hp, HL.out, ho]; simp
                go_wp2_with fail
                refine (rhas_any _ _ _ _).mono ?_
                rintro e w4 ⟨rfl, hb4⟩
                go_wp2_with fail
                go_roundw
                case rel => exact ⟨j + 1, _, by omega, by go_num, rfl, HF.out, HBB.out.trans (hb4.mono HBB.out.size)⟩
                case measure => simp [intOf]; omega
            · have HF : Hid ((z && rightG outl k x ((j + 1 : Nat) : Int) (cs.drop (j + 1))) = rightB cs outl k x) := by show _ = _; rw [← HR.out, HD.out, rightG, hp, ho]; simp
              go_wp2_with fail
              go_roundw
              case rel => exact ⟨j + 1, z, by omega, by go_num, rfl, HF.out, HBB.out⟩
              case measure => simp [intOf]; omega
          · have HF : Hid ((z && rightG outl k x ((j + 1 : Nat) : Int) (cs.drop (j + 1))) = rightB cs outl k x) := by show _ = _; rw [← HR.out, HD.out, rightG, hp, hl]; simp
            rw [hl] at hd3
            clear hl
            go_wp2_with fail
            go_roundw
            case rel => exact ⟨j + 1, z, by omega, by go_num, rfl, HF.out, HBB.out⟩
            case measure => simp [intOf]; omega
      · have HF : Hid (z = rightB cs outl k x) := by show _ = _; rw [← HR.out, List.drop_of_length_le (by have := HCS1.out.1; omega)]; simp [rightG]
        have hs0 : wr.cell? ⟨w.heap.size, 0, none⟩ = some (.int .i64 k) := (hb.cell (p := ⟨w.heap.size, 0, none⟩) (World.block_lt_of_cell? _ _ HS0.out)).trans HS0.out
        have hs1 : wr.cell? ⟨w.heap.size, 1, none⟩ = some (.int .i64 x) := (hb.cell (p := ⟨w.heap.size, 1, none⟩) (World.block_lt_of_cell? _ _ HS1.out)).trans HS1.out
        have hc6 := (HWA1.out.below hb).c6
        have HMR := hid (HM1.out.below hb)
        go_wp2_with fail
        go_still_tail 6, (by kernel_rfl)
        obtain ⟨W4, hrun, hM4, hg⟩ := (HMR.out.below (Below.drew (Below.refl _ _))).put Try.key145 Try.und139 hnn hkl z
        have HM4 := hid hM4
        have HG := hid hg
        clear hM4 hg
        refine wpList_put rfl _ _ _ _ rfl bm _ _ rfl rfl rfl hrun ?_
        go_wp2_with fail
        go_ret
        refine ⟨ret_bool HF.out, _, HM4.out, ?_, ?_⟩
        · have := HK.out.upd k x
          rw [← HF.out] at this
          exact this
        · have h1 : Below w.heap.size w wr := HB1.out.trans (hb.mono (by have := HSZ1.out; omega))
          exact ((Near.of_below h1 (fun i h1 h2 => by omega)).drew).grown HG.out (fun i e _ => (Option.some.inj e).symm)
end Go.Proofs.Ytlicijnaacdceaa

/- The iterator over the truths: its boxes, and where all places have hits. -/
namespace Go.Proofs.Ytlicijnaacdceaa
open Go.RowKit

theorem IntsAt.kept {w w' : World} {p : Option Addr} {n : Nat} {l : List Int} (h : IntsAt w p n l) (hb : ∀ a, p = some a → 0 < n → a.block < w.heap.size → w'.heap[a.block]? = w.heap[a.block]?) : IntsAt w' p n l := by
  refine ⟨h.1, fun i hi => ?_⟩
  obtain ⟨b, off, hp, hc⟩ := h.2 i hi
  exact ⟨b, off, hp, (World.cell?_of_block (a := ⟨b, off + i, none⟩) (hb ⟨b, off, none⟩ hp (by omega) (World.block_lt_of_cell? w ⟨b, off + i, none⟩ hc))).trans hc⟩
theorem CntsAt.kept {w w' : World} {p : Option Addr} {n : Nat} {l : List Cnt} (h : CntsAt w p n l) (hb : ∀ a, p = some a → 0 < n → a.block < w.heap.size → w'.heap[a.block]? = w.heap[a.block]?) (hs : w.heap.size ≤ w'.heap.size) : CntsAt w' p n l := by
  refine ⟨h.1, fun i c hi => ?_⟩
  obtain ⟨b, off, hp, hlt, h0, h1, h2, h3⟩ := h.2 i c hi
  have hk := hb _ hp (by rw [h.1]; exact Nat.lt_of_le_of_lt (Nat.zero_le _) (List.getElem?_eq_some_iff.1 hi).1) hlt
  exact ⟨b, off, hp, Nat.lt_of_lt_of_le hlt hs, (World.cell?_of_block (a := ⟨b, off + i * 4, none⟩) hk).trans h0, (World.cell?_of_block (a := ⟨b, off + i * 4 + 1, none⟩) hk).trans h1, (World.cell?_of_block (a := ⟨b, off + i * 4 + 2, none⟩) hk).trans h2, (World.cell?_of_block (a := ⟨b, off + i * 4 + 3, none⟩) hk).trans h3⟩

/-- Block b holds nine numbers that can be written. -/
def HitsW (W : World) (b : Nat) (h : List Int) : Prop := HitsAt W b h ∧ ∀ i, i < 9 → W.frozen? ⟨b, i, none⟩ = false
theorem HitsW.kept {W W' : World} {b : Nat} {h : List Int} (hh : HitsW W b h) (hb : W'.heap[b]? = W.heap[b]?) : HitsW W' b h :=
  ⟨fun i hi => (World.cell?_of_block (a := ⟨b, i, none⟩) hb).trans (hh.1 i hi), fun i hi => (World.frozen?_of_block (a := ⟨b, i, none⟩) hb).trans (hh.2 i hi)⟩

/-- What the iterator reads: the work, its box, the survey's slices. -/
def RdOf (b bv bm : Nat) (p : Option Addr) (n : Nat) (q : Option Addr) (m : Nat) (po : Option Addr) (no : Nat) (k : Nat) : Prop := k = b ∨ k = bv ∨ k = bm ∨ (∃ a, p = some a ∧ 0 < n ∧ k = a.block) ∨ (∃ a, q = some a ∧ 0 < m ∧ k = a.block) ∨ (∃ a, po = some a ∧ 0 < no ∧ k = a.block)

/-- A survey at work and all that hangs on it, with at most nn spots known. -/
structure SurvAt (W : World) (b bv bm : Nat) (r cc : Int) (p : Option Addr) (n c : Nat) (l : List Int) (sm : Int) (q : Option Addr) (m d : Nat) (cs : List Cnt) (po : Option Addr) (no co : Nat) (outl : List Int) (nn : Nat) : Prop where
  work : WorkAt W b r cc p n c sm q m d po no co bm
  box : W.cell? ⟨bv, 0, none⟩ = some (.pointer (some ⟨b, 0, none⟩))
  stems : IntsAt W p n l
  cnts : CntsAt W q m cs
  outs : IntsAt W po no outl
  known : ∃ M, MapIs W 145 bm nn M ∧ Knows cs outl M

theorem SurvAt.kept {W W' : World} {b bv bm : Nat} {r cc : Int} {p : Option Addr} {n c : Nat} {l : List Int} {sm : Int} {q : Option Addr} {m d : Nat} {cs : List Cnt} {po : Option Addr} {no co : Nat} {outl : List Int} {nn : Nat}
    (h : SurvAt W b bv bm r cc p n c l sm q m d cs po no co outl nn) (hk : ∀ k, RdOf b bv bm p n q m po no k → k < W.heap.size → W'.heap[k]? = W.heap[k]?) (hs : W.heap.size ≤ W'.heap.size) : SurvAt W' b bv bm r cc p n c l sm q m d cs po no co outl nn := by
  obtain ⟨M, hM, hK⟩ := h.known
  exact ⟨h.work.kept (hk b (.inl rfl) h.work.lt), (World.cell?_of_block (a := ⟨bv, 0, none⟩) (hk bv (.inr (.inl rfl)) (World.block_lt_of_cell? _ _ h.box))).trans h.box,
    h.stems.kept fun a ha h0 hl => hk _ (.inr (.inr (.inr (.inl ⟨a, ha, h0, rfl⟩)))) hl, h.cnts.kept (fun a ha h0 hl => hk _ (.inr (.inr (.inr (.inr (.inl ⟨a, ha, h0, rfl⟩))))) hl) hs, h.outs.kept fun a ha h0 hl => hk _ (.inr (.inr (.inr (.inr (.inr ⟨a, ha, h0, rfl⟩))))) hl,
    M, hM.kept (hk bm (.inr (.inr (.inl rfl))) hM.lt), hK⟩

theorem SurvAt.below {W W' : World} {b bv bm : Nat} {r cc : Int} {p : Option Addr} {n c : Nat} {l : List Int} {sm : Int} {q : Option Addr} {m d : Nat} {cs : List Cnt} {po : Option Addr} {no co : Nat} {outl : List Int} {nn : Nat}
    (h : SurvAt W b bv bm r cc p n c l sm q m d cs po no co outl nn) (hb : Below W.heap.size W W') : SurvAt W' b bv bm r cc p n c l sm q m d cs po no co outl nn := h.kept (fun k _ hk => hb.block k hk) hb.size

/-- The boxes of the iterator. -/
structure ItBox (W : World) (l B bv : Nat) (h : List Int) : Prop where
  yield : W.cell? ⟨B, 0, none⟩ = some (.func (.yield l) #[] #[])
  hits : HitsW W (B + 1) h
  choose : W.cell? ⟨B + 2, 0, none⟩ = some (.func (.func 96) #[] #[.pointer (some ⟨bv, 0, none⟩), .pointer (some ⟨B, 0, none⟩), .pointer (some ⟨B + 1, 0, none⟩), .pointer (some ⟨B + 2, 0, none⟩)])

theorem ItBox.lt {W : World} {l B bv : Nat} {h : List Int} (hh : ItBox W l B bv h) : B + 2 < W.heap.size := World.block_lt_of_cell? _ _ hh.choose
theorem ItBox.kept {W W' : World} {l B bv : Nat} {h : List Int} (hh : ItBox W l B bv h) (hk : ∀ k, B ≤ k → k < B + 3 → W'.heap[k]? = W.heap[k]?) : ItBox W' l B bv h :=
  ⟨(World.cell?_of_block (a := ⟨B, 0, none⟩) (hk B (by omega) (by omega))).trans hh.yield, hh.hits.kept (hk _ (by omega) (by omega)), (World.cell?_of_block (a := ⟨B + 2, 0, none⟩) (hk (B + 2) (by omega) (by omega))).trans hh.choose⟩

/-- The truths in the program's order: of the stems that are left, from place k on, with what was chosen. -/
def genP (ok : Nat → Int → List Int → Bool) : List Int → Nat → List Int → List (List Int)
  | [], _, pre => [pre]
  | s :: r, k, pre => (List.range (s + 1).toNat).flatMap fun (i : Nat) => if ok k (i : Int) pre = true then genP ok r (k + 1) (pre ++ [(i : Int)]) else []
def okP (cs : List Cnt) (outl : List Int) (cc sm : Int) (k : Nat) (x : Int) (pre : List Int) : Bool := rightB cs outl k x && smoothB cc sm (pre ++ [x]) k
def costP : List Int → Nat
  | [] => 0
  | s :: r => (s + 1).toNat * (1 + costP r)

theorem yield_any {m : Nat} (m' : Nat) {l : Nat} {args : Array Value} {W : World} {R : Ending → World → Prop} (h : YieldAt Fence.wide m Try.prog l args W R) : YieldAt Fence.wide m' Try.prog l args W R := by
  obtain ⟨fn, tmps, assign, body, hy, hR⟩ := h
  exact ⟨fn, tmps, assign, body, hy, ⟨hR.1, fun c cs _ => hR.2 c cs (fun d h => by cases h)⟩⟩

set_option maxRecDepth 40000 in
set_option maxHeartbeats 4000000 in
theorem choose_base (l0 B b bv bm : Nat) (r cc : Int) (p : Option Addr) (n c : Nat) (l : List Int) (sm : Int) (q : Option Addr) (m d : Nat) (cs : List Cnt) (po : Option Addr) (no co : Nat) (outl : List Int) (nn : Nat) (h : List Int) (W : World)
    (hS : SurvAt W b bv bm r cc p n c l sm q m d cs po no co outl nn) (hI : ItBox W l0 B bv h) (_hn : n ≤ 9) (R : Ending → World → Prop)
    (hY : ∀ W1, Below W.heap.size W W1 → YieldAt Fence.wide 0 Try.prog l0 #[hitsV h] W1 R) (hR : ∀ e W1, R e W1 → e = .returned (.bool true) ∨ e = .returned (.bool false)) :
    Calls Try.prog 96 #[.int .i64 n, .pointer (some ⟨bv, 0, none⟩), .pointer (some ⟨B, 0, none⟩), .pointer (some ⟨B + 1, 0, none⟩), .pointer (some ⟨B + 2, 0, none⟩)] W R := by
  refine (callsIn_wide (n := 5)).1 ?_
  have hv := hS.box
  have hc0 := hS.work.c0
  have hc1 := hS.work.c1
  have hc2 := hS.work.c2
  refine callsIn_of_wp Try.func96 rfl trivial ?_ rfl
  simp only [Try.ntmps96, List.size_toArray, List.length_cons, List.length_nil, Nat.reduceAdd, Nat.reduceSub, Array.replicate_succ, Array.replicate_zero, List.push_toArray, List.append_toArray, List.nil_append, List.cons_append]
  gi_wp2
  refine ⟨trivial, ?_⟩
  gi_at_call 77
  refine (callsIn_wide.2 (places_any _ _ _ _ _ _)).mono ?_
  rintro e w1 ⟨rfl, hb1⟩
  have hI1 := hI.kept (W' := w1) (fun k _ hk => hb1.block k (by have := hI.lt; omega))
  have hyl := hI1.yield
  have q0 := hI1.hits.1 0 (by omega)
  have q1 := hI1.hits.1 1 (by omega)
  have q2 := hI1.hits.1 2 (by omega)
  have q3 := hI1.hits.1 3 (by omega)
  have q4 := hI1.hits.1 4 (by omega)
  have q5 := hI1.hits.1 5 (by omega)
  have q6 := hI1.hits.1 6 (by omega)
  have q7 := hI1.hits.1 7 (by omega)
  have q8 := hI1.hits.1 8 (by omega)
  obtain ⟨fn, tmps, assign, body, hy, hRd⟩ := yield_any (5 - 1) (hY w1 hb1)
  simp only [hitsV] at hy
  clear hS hI hI1 hv hc0 hc1 hc2 hY
  gi_wp2
  refine hRd.mono ?_
  intro e W' hr
  have HR := hid hr
  rcases hR e W' hr with rfl | rfl
  · clear hr
    gi_wp2
    exact HR.out
  · clear hr
    gi_wp2
    exact HR.out
end Go.Proofs.Ytlicijnaacdceaa
