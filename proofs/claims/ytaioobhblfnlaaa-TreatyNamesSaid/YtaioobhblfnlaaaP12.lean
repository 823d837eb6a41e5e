/- Package treaty: whether a list is a set of treaties; Kept; Prove. No condition but a short list. -/
import Derived.Test.YtaioobhblfnlaaaP11
namespace Go.Proofs.Ytaioobhblfnlaaa
open Go.RowKit

/-- Whether a number comes next in a set, after q. -/
def stepB (ts : List Tre) (q a : Int) : Bool := inB a (q + 1) ((ts.length : Int) - 1) && freeI ts a
theorem setG_step {ts : List Tre} {q : Int} (hq : -1 ≤ q) (a : Int) (l : List Int) : setG ts q (a :: l) = (stepB ts q a && setG ts a l) := by
  rw [setG, stepB, Bool.eq_iff_iff]
  simp only [Bool.and_eq_true, inB_iff, decide_eq_true_eq]
  constructor
  · rintro ⟨h1, h2, h3, h4⟩; exact ⟨⟨⟨by omega, h1.2⟩, h2⟩, h4⟩
  · rintro ⟨⟨h1, h2⟩, h4⟩; exact ⟨⟨by omega, h1.2⟩, h2, by omega, h4⟩
theorem step_bd {ts : List Tre} {q a : Int} (hq : -1 ≤ q) (h : stepB ts q a = true) : 0 ≤ a ∧ a < (ts.length : Int) := by
  rw [stepB, Bool.and_eq_true, inB_iff] at h
  omega
/-- The treaties that a list is asked of, and the last number. -/
structure SetAt (W : World) (ts : List Tre) (bl bp : Nat) (tp : Option Addr) (tn tc : Nat) (q : Int) : Prop where
  l : BoxIs bl #[.int .i64 q] W
  p : W.cell? ⟨bp, 2, none⟩ = some (.slice tp tn tc)
  t : RowsAt cellsT 7 W tp tn ts
  ne : bl ≠ bp
  nt : ¬ InS tp tn bl
theorem SetAt.next {W W' : World} {ts : List Tre} {bl bp : Nat} {tp : Option Addr} {tn tc : Nat} {q a : Int} (h : SetAt W ts bl bp tp tn tc q) (hl : BoxIs bl #[.int .i64 a] W') (hn : Near (fun k => k = bl) W W') : SetAt W' ts bl bp tp tn tc a :=
  ⟨hl, (hn.cell (p := ⟨bp, 2, none⟩) (World.block_lt_of_cell? _ _ h.p) (fun e => h.ne e.symm)).trans h.p, h.t.kept hn.size (fun b ha h0 hlt => hn.block _ hlt (fun e => h.nt ⟨b, ha, h0, e.symm⟩)), h.ne, h.nt⟩
def StepPost (bl : Nat) (a : Int) (w : World) (v : Bool) : Ending → World → Prop := fun e w' => e = .returned (.bool v) ∧ BoxIs bl #[.int .i64 a] w' ∧ Near (fun k => k = bl) w w'

set_option maxRecDepth 40000 in
set_option maxHeartbeats 4000000 in
theorem set117_any (ts : List Tre) (bl bp : Nat) (tp : Option Addr) (tn tc : Nat) (q a : Int) (w : World) (hs : SetAt w ts bl bp tp tn tc q) (hq : -1 ≤ q) (hq1 : q ≤ 1000) (htn : tn ≤ 1000) :
    Calls Try.prog 117 #[.int .i64 a, .pointer (some ⟨bl, 0, none⟩), .pointer (some ⟨bp, 0, none⟩)] w (StepPost bl a w (stepB ts q a)) := by
  have HS := hid hs
  have HTN := hid hs.t.1
  have q0 := (hs.l.2 0 (.int .i64 q) rfl).1; have f0 := (hs.l.2 0 (.int .i64 q) rfl).2
  have p2 := hs.p
  clear hs
  skip
  have HFIN : Hid (BoxIs bl #[.int .i64 a] (w.setCell ⟨bl, 0, none⟩ (.int .i64 a)) ∧ Near (fun k => k = bl) w (w.setCell ⟨bl, 0, none⟩ (.int .i64 a))) := hid ⟨HS.out.l.put (j := 0) (.int .i64 a), near_one (S := fun k => k = bl) rfl _⟩
  cases h1 : inB a (q + 1) ((tn : Int) - 1)
  · have HF : Hid (stepB ts q a = false) := hid (by rw [stepB, ← HTN.out, h1]; rfl)
    go_enter Try.func117, Try.ntmps117
    go_wp2_with (go_at_call 69; (with_reducible refine (within_any _ _ _ _).mono ?_); rintro e w' ⟨rfl, rfl⟩)
    go_ret
    exact ⟨ret_bool HF.out.symm, HFIN.out.1, HFIN.out.2⟩
  · have ha := inB_iff.1 h1
    obtain ⟨j, rfl⟩ : ∃ j : Nat, a = j := ⟨a.toNat, by omega⟩
    obtain ⟨t, ht, b3, o3, rfl, hb3, d0, d1, d2, d3, d4, d5, d6⟩ := HS.out.t.tre (show j < tn by omega)
    have HFR : Hid (freeI ts (j : Int) = decide (t.off < 0)) := hid (by rw [freeI, Int.toNat_natCast, ht])
    have hjt : (j : Int) < (tn : Int) := by omega
    by_cases ho : t.off < 0
    · have HF : Hid (stepB ts q (j : Int) = true) := hid (by rw [stepB, ← HTN.out, h1, HFR.out]; simpa using ho)
      clear ht hb3
      go_enter Try.func117, Try.ntmps117
      go_wp2_with (go_at_call 69; (with_reducible refine (within_any _ _ _ _).mono ?_); rintro e w' ⟨rfl, rfl⟩)
      go_ret
      exact ⟨ret_bool HF.out.symm, HFIN.out.1, HFIN.out.2⟩
    · have HF : Hid (stepB ts q (j : Int) = false) := hid (by rw [stepB, ← HTN.out, h1, HFR.out]; simpa using ho)
      clear ht hb3
      go_enter Try.func117, Try.ntmps117
      go_wp2_with (go_at_call 69; (with_reducible refine (within_any _ _ _ _).mono ?_); rintro e w' ⟨rfl, rfl⟩)
      go_ret
      exact ⟨ret_bool (by rw [HF.out]; simpa using ho), HFIN.out.1, HFIN.out.2⟩

set_option maxRecDepth 20000 in
set_option maxHeartbeats 2000000 in
theorem not123s_any (ts : List Tre) (bl bp B : Nat) (tp : Option Addr) (tn tc : Nat) (q a : Int) (w : World) (hB : w.cell? ⟨B, 0, none⟩ = some (.func (.func 117) #[] #[.pointer (some ⟨bl, 0, none⟩), .pointer (some ⟨bp, 0, none⟩)])) (hs : SetAt w ts bl bp tp tn tc q) (hq : -1 ≤ q) (hq1 : q ≤ 1000) (htn : tn ≤ 1000) :
    Calls Try.prog 123 #[.int .i64 a, .pointer (some ⟨B, 0, none⟩)] w (StepPost bl a w (!stepB ts q a)) := by
  have HC := hid (set117_any ts bl bp tp tn tc q a w hs hq hq1 htn)
  clear hs
  go_enter Try.func123, Try.ntmps123
  go_wp2_with fail
  refine HC.out.mono ?_
  rintro e w1 ⟨rfl, hl, hn⟩
  go_wp2_with fail
  go_ret
  exact ⟨rfl, hl, hn⟩
def IdxPost (bl : Nat) (w : World) (r : Bool) : Ending → World → Prop := fun e w' => ∃ j : Int, e = .returned (.int .i64 j) ∧ (decide (0 ≤ j) = r) ∧ Near (fun k => k = bl) w w'

set_option maxRecDepth 40000 in
set_option maxHeartbeats 4000000 in
theorem index132s_any (ts : List Tre) (bl bp B : Nat) (tp : Option Addr) (tn tc : Nat) (q0 : Int) (p : Option Addr) (m c : Nat) (l : List Int) (w : World) (hB : w.cell? ⟨B, 0, none⟩ = some (.func (.func 117) #[] #[.pointer (some ⟨bl, 0, none⟩), .pointer (some ⟨bp, 0, none⟩)])) (hs : SetAt w ts bl bp tp tn tc q0) (hq : -1 ≤ q0) (hq1 : q0 ≤ 1000) (htn : tn ≤ 1000)
    (hl : IntsAt w p m l) (hm : m ≤ 1000000) (hqm : ∀ a, p = some a → 0 < m → a.block ≠ bl) (hbn : B ≠ bl) : Calls Try.prog 132 #[.slice p m c, .func (.func 123) #[] #[.pointer (some ⟨B, 0, none⟩)]] w (IdxPost bl w (!setG ts q0 l)) := by
  have HN := hid (fun q a W (hW : SetAt W ts bl bp tp tn tc q) (hBW : W.cell? ⟨B, 0, none⟩ = some (.func (.func 117) #[] #[.pointer (some ⟨bl, 0, none⟩), .pointer (some ⟨bp, 0, none⟩)])) (h1 : -1 ≤ q) (h2 : q ≤ 1000) => not123s_any ts bl bp B tp tn tc q a W hBW hW h1 h2 htn)
  have HTS := hid hs.t.1
  have HL := hid hl
  have HMN := hid hl.1
  have HS := hid hs
  have HB := hid hB
  have HQM := hid hqm
  have HBN := hid hbn
  clear hs hl hB hqm hbn
  go_enter Try.func132, Try.ntmps132
  go_wp2_with fail
  go_loopw [5, 8] (fun _ i wr => ∃ (k : Nat) (q : Int), k ≤ m ∧ i = .int .i64 k ∧ setG ts q (l.drop k) = setG ts q0 l ∧ (-1 ≤ q ∧ q ≤ 1000) ∧ SetAt wr ts bl bp tp tn tc q ∧ Near (fun k => k = bl) w wr) (fun _ i _ => m - (intOf i).toNat)
  case atStart => exact ⟨0, q0, by omega, rfl, rfl, ⟨hq, hq1⟩, HS.out, Near.refl _ _⟩
  case round =>
    clear HS
    obtain ⟨k, q, hk, rfl, hr, hqb, hs, hn⟩ := hrel
    have HR := hid hr; have HS := hid hs; have HNR := hid hn
    clear hr hs hn
    have HBr : Hid (wr.cell? ⟨B, 0, none⟩ = some (.func (.func 117) #[] #[.pointer (some ⟨bl, 0, none⟩), .pointer (some ⟨bp, 0, none⟩)])) := hid ((HNR.out.cell (p := ⟨B, 0, none⟩) (World.block_lt_of_cell? _ _ HB.out) HBN.out).trans HB.out)
    by_cases hlt : k < m
    · obtain ⟨b2, o2, rfl, hb2, c0⟩ := HL.out.at hlt
      have c1 : wr.cell? ⟨b2, o2 + k, none⟩ = some (.int .i64 (l[k]?.getD 0)) := (HNR.out.cell (p := ⟨b2, o2 + k, none⟩) hb2 (HQM.out ⟨b2, o2, none⟩ rfl (by omega))).trans c0
      have HD := hid (drop_at l k (by have := HMN.out; omega))
      obtain ⟨x, hx⟩ : ∃ x, l[k]?.getD 0 = x := ⟨_, rfl⟩
      rw [hx] at c1 HD
      clear hx c0 hb2
      have HST : Hid (setG ts q0 l = (stepB ts q x && setG ts x (l.drop (k + 1)))) := hid (by rw [← HR.out, HD.out, setG_step hqb.1])
      go_wp2_with fail
      refine (HN.out q x _ HS.out HBr.out hqb.1 hqb.2).mono ?_
      rintro e w1 ⟨rfl, hl1, hn1⟩
      have HS1 := hid (HS.out.next hl1 hn1)
      have HN1 := hid (HNR.out.trans hn1)
      clear hl1 hn1 c1
      cases hst : stepB ts q x
      · have HF : Hid (setG ts q0 l = false) := hid (by rw [HST.out, hst]; rfl)
        clear hst
        go_wp2_with fail
        go_ret
        exact ⟨(k : Int), rfl, by rw [HF.out]; simp, HN1.out⟩
      · have HF : Hid (setG ts x (l.drop (k + 1)) = setG ts q0 l) := hid (by rw [HST.out, hst, Bool.true_and])
        have hxb := step_bd hqb.1 hst
        have hxb2 : -1 ≤ x ∧ x ≤ 1000 := by have := HTS.out; omega
        clear hst hxb
        go_wp2_with fail
        go_roundw
        case rel => exact ⟨k + 1, x, by omega, by go_num, HF.out, hxb2, HS1.out, HN1.out⟩
        case measure => simp [intOf]; omega
    · have HF : Hid (setG ts q0 l = true) := hid (by rw [← HR.out, List.drop_of_length_le (by have := HMN.out; omega)]; rfl)
      go_wp2_with fail
      go_ret
      exact ⟨-1, rfl, by rw [HF.out]; rfl, HNR.out⟩

set_option maxRecDepth 20000 in
set_option maxHeartbeats 2000000 in
theorem contains122s_any (ts : List Tre) (bl bp B : Nat) (tp : Option Addr) (tn tc : Nat) (q0 : Int) (p : Option Addr) (m c : Nat) (l : List Int) (w : World) (hB : w.cell? ⟨B, 0, none⟩ = some (.func (.func 117) #[] #[.pointer (some ⟨bl, 0, none⟩), .pointer (some ⟨bp, 0, none⟩)])) (hs : SetAt w ts bl bp tp tn tc q0) (hq : -1 ≤ q0) (hq1 : q0 ≤ 1000) (htn : tn ≤ 1000)
    (hl : IntsAt w p m l) (hm : m ≤ 1000000) (hqm : ∀ a, p = some a → 0 < m → a.block ≠ bl) (hbn : B ≠ bl) : Calls Try.prog 122 #[.slice p m c, .func (.func 123) #[] #[.pointer (some ⟨B, 0, none⟩)]] w fun e w' => e = .returned (.bool (!setG ts q0 l)) ∧ Near (fun k => k = bl) w w' := by
  have HC := hid (index132s_any ts bl bp B tp tn tc q0 p m c l w hB hs hq hq1 htn hl hm hqm hbn)
  clear hB hs hl hqm hbn
  go_enter Try.func122, Try.ntmps122
  go_wp2_with fail
  refine HC.out.mono ?_
  rintro e w1 ⟨j, rfl, hj, hn⟩
  have HJ := hid hj
  clear hj
  go_wp2_with fail
  go_ret
  exact ⟨ret_bool HJ.out, hn⟩

set_option maxRecDepth 20000 in
set_option maxHeartbeats 2000000 in
theorem all98s_any (ts : List Tre) (bl bp : Nat) (tp : Option Addr) (tn tc : Nat) (q0 : Int) (p : Option Addr) (m c : Nat) (l : List Int) (w : World) (hs : SetAt w ts bl bp tp tn tc q0) (hq : -1 ≤ q0) (hq1 : q0 ≤ 1000) (htn : tn ≤ 1000)
    (hl : IntsAt w p m l) (hm : m ≤ 1000000) (hqm : ∀ a, p = some a → 0 < m → a.block ≠ bl) : Calls Try.prog 98 #[.slice p m c, .func (.func 117) #[] #[.pointer (some ⟨bl, 0, none⟩), .pointer (some ⟨bp, 0, none⟩)]] w fun e w' => e = .returned (.bool (setG ts q0 l)) ∧ Near (fun k => k = bl) w w' := by
  have hb : Below w.heap.size w (w.alloc (.cells #[.func (.func 117) #[] #[.pointer (some ⟨bl, 0, none⟩), .pointer (some ⟨bp, 0, none⟩)]] 114)) := (Below.refl _ _).alloc (Nat.le_refl _) _
  have HC := hid (contains122s_any ts bl bp w.heap.size tp tn tc q0 p m c l (w.alloc (.cells #[.func (.func 117) #[] #[.pointer (some ⟨bl, 0, none⟩), .pointer (some ⟨bp, 0, none⟩)]] 114)) (cell_box _ _ _ 0 _ rfl) (hs.next (hs.l.below hb) (near_below hb)) hq hq1 htn (hl.below hb) hm hqm (by have := hs.l.1; omega))
  have HBL := hid hs.l.1
  clear hs hl hqm hb
  have hmf : ∀ (fn : Fn) (first cap : Array Value) (w : World), (Instr.makeFunc fn first cap).run Try.prog w = .ok (.func fn first cap) w := fun _ _ _ _ => rfl
  go_enter Try.func98, Try.ntmps98
  go_wp2_with fail
  refine HC.out.mono ?_
  rintro e w1 ⟨rfl, hn⟩
  have HN := hid hn
  clear hn
  go_wp2_with fail
  go_ret
  exact ⟨ret_bool (by simp), (near_below ((Below.refl _ _).alloc (Nat.le_refl _) _)).trans HN.out⟩

set_option maxRecDepth 20000 in
set_option maxHeartbeats 2000000 in
theorem set89_any (p : Prg) (lp : Option Addr) (ln lc : Nat) (tp : Option Addr) (tn tc : Nat) (rp : Option Addr) (rn rc : Nat) (q : Option Addr) (m c : Nat) (l : List Int) (w : World) (hp : PrgAt w p lp ln tp tn rp rn) (hl : IntsAt w q m l) (hm : m ≤ 1000000) (htn : tn ≤ 1000) : Calls Try.prog 89 #[.agg #[.slice lp ln lc, .int .i64 p.reserve, .slice tp tn tc, .slice rp rn rc], .slice q m c] w fun e w' => e = .returned (.bool (setB p.ts l)) ∧ Below w.heap.size w w' := by
  obtain ⟨w1, hw1⟩ : ∃ V, (w.alloc (.cells #[.slice lp ln lc, .int .i64 p.reserve, .slice tp tn tc, .slice rp rn rc] 37)).alloc (.cells #[.int .i64 (-1)] 3) = V := ⟨_, rfl⟩
  have hB1 : BoxIs w.heap.size #[.slice lp ln lc, .int .i64 p.reserve, .slice tp tn tc, .slice rp rn rc] w1 := by rw [← hw1]; exact (BoxIs.start w #[.slice lp ln lc, .int .i64 p.reserve, .slice tp tn tc, .slice rp rn rc] 37).below ((Below.refl _ _).alloc (Nat.le_refl _) _)
  have hL1 : BoxIs (w.heap.size + 1) #[.int .i64 (-1)] w1 := by
      have h := BoxIs.start (w.alloc (.cells #[.slice lp ln lc, .int .i64 p.reserve, .slice tp tn tc, .slice rp rn rc] 37)) #[.int .i64 (-1)] 3
      rw [World.size_alloc] at h
      rw [← hw1]; exact h
  have hb : Below w.heap.size w w1 := by rw [← hw1]; exact ((Below.refl _ _).alloc (Nat.le_refl _) _).alloc (by simp) _
  have HB := hid hb
  have HC := hid (all98s_any p.ts (w.heap.size + 1) w.heap.size tp tn tc (-1) q m c l w1 ⟨hL1, (hB1.2 2 (.slice tp tn tc) rfl).1, hp.t.below hb, by omega, fun hk => by have := rows_lt hp.t hk; omega⟩ (by omega) (by omega) htn (hl.below hb) hm (fun a ha h0 e => by have := ints_lt hl ⟨a, ha, h0, rfl⟩; omega))
  clear hp hl hb hB1 hL1
  have hmf : ∀ (fn : Fn) (first cap : Array Value) (w : World), (Instr.makeFunc fn first cap).run Try.prog w = .ok (.func fn first cap) w := fun _ _ _ _ => rfl
  go_enter Try.func89, Try.ntmps89
  go_wp2_with fail
  clear hw1
  refine HC.out.mono ?_
  rintro e w2 ⟨rfl, hn⟩
  have HN := hid hn
  clear hn
  go_wp2_with fail
  go_ret
  exact ⟨rfl, HB.out.trans (HN.out.below HB.out.size (fun i h1 h2 => by omega))⟩
noncomputable def keptE (p : Prg) (l : List Int) : Int := if faultP p = 0 then (if setB p.ts l = true then 0 else 2) else faultP p
noncomputable def keptV (p : Prg) (l : List Int) : Rng := if keptE p l = 0 then keptX p l else ⟨0, 0⟩

set_option maxRecDepth 40000 in
set_option maxHeartbeats 4000000 in
theorem kept_any (p : Prg) (lp : Option Addr) (ln lc : Nat) (tp : Option Addr) (tn tc : Nat) (rp : Option Addr) (rn rc : Nat) (q : Option Addr) (m c : Nat) (l : List Int) (w : World) (hp : PrgAt w p lp ln tp tn rp rn) (hl : IntsAt w q m l) (hm : m ≤ 100000) : Calls Try.prog 35 #[.agg #[.slice lp ln lc, .int .i64 p.reserve, .slice tp tn tc, .slice rp rn rc], .slice q m c] w (RngPost (keptV p l) (keptE p l) w) := by
  have HC := hid (fun W (hW : Below w.heap.size w W) => check_any p lp ln lc tp tn tc rp rn rc W (hp.below hW))
  have HST := hid (fun W (hW : Below w.heap.size w W) (h5 : tn ≤ 1000) => set89_any p lp ln lc tp tn tc rp rn rc q m c l W (hp.below hW) (hl.below hW) (by omega) h5)
  have HK := hid (fun W (hW : Below w.heap.size w W) (hs : setB p.ts l = true) (ok : OkP p) => kept90_any p lp ln lc tp tn tc rp rn rc q m c l W (hp.below hW) (hl.below hW) hm (inTs_of hs) ok)
  have HTN := hid hp.t.1
  clear hp hl
  have HB0 : Hid (Boxed2 w #[.slice lp ln lc, .int .i64 p.reserve, .slice tp tn tc, .slice rp rn rc] 37 #[.int .i64 0, .int .i64 0] 51 ((w.alloc (.cells #[.slice lp ln lc, .int .i64 p.reserve, .slice tp tn tc, .slice rp rn rc] 37)).alloc (.cells #[.int .i64 0, .int .i64 0] 51))) := hid (Below.refl _ _)
  have HR0 : Hid (BoxIs (w.heap.size + 1) #[.int .i64 0, .int .i64 0] ((w.alloc (.cells #[.slice lp ln lc, .int .i64 p.reserve, .slice tp tn tc, .slice rp rn rc] 37)).alloc (.cells #[.int .i64 0, .int .i64 0] 51))) := hid (by have h := BoxIs.start (w.alloc (.cells #[.slice lp ln lc, .int .i64 p.reserve, .slice tp tn tc, .slice rp rn rc] 37)) #[.int .i64 0, .int .i64 0] 51; rw [World.size_alloc] at h; exact h)
  go_enter Try.func35, Try.ntmps35
  go_wp2_with fail
  (with_reducible refine (HC.out _ HB0.out.below).mono ?_)
  rintro e w1 ⟨rfl, hb⟩
  have HB1 := hid (HB0.out.step (hb.mono (by simp)))
  have HR1 := hid (HR0.out.below hb)
  clear hb HB0 HR0
  by_cases h0 : faultP p = 0
  · have HOK := hid (fault_iff.1 h0)
    have HE : Hid (keptE p l = if setB p.ts l = true then 0 else 2) := hid (by rw [keptE, if_pos h0])
    have ht5 : tn ≤ 1000 := by have := HTN.out; have := HOK.out.m5; omega
    rw [h0]
    clear h0
    have e0 := HB1.out.cell1 0 (v := .slice lp ln lc) rfl; have e1 := HB1.out.cell1 1 (v := .int .i64 p.reserve) rfl; have e2 := HB1.out.cell1 2 (v := .slice tp tn tc) rfl; have e3 := HB1.out.cell1 3 (v := .slice rp rn rc) rfl
    go_wp2_with fail
    (with_reducible refine (HST.out _ HB1.out.below ht5).mono ?_)
    rintro e w2 ⟨rfl, hb⟩
    have HB2 := hid (HB1.out.step (hb.mono HB1.out.size))
    have HR2 := hid (HR1.out.below hb)
    clear hb e0 e1 e2 e3
    cases hs : setB p.ts l
    · have HER : Hid (keptE p l = 2) := hid (by rw [HE.out, hs]; rfl)
      have HNE : Hid (keptV p l = ⟨0, 0⟩) := hid (by rw [keptV, if_neg (by rw [HER.out]; decide)])
      clear hs
      have z0 := (HR2.out.2 0 (.int .i64 0) rfl).1; have z1 := (HR2.out.2 1 (.int .i64 0) rfl).1; have z2 := (HR2.out.2 0 (.int .i64 0) rfl).2; have z3 := (HR2.out.2 1 (.int .i64 0) rfl).2
      go_wp2_with fail
      have hq := HR2.out.setRng (r := ⟨0, 0⟩) (q := ⟨0, 0⟩)
      have y0 := (hq.2 0 (.int .i64 0) rfl).1; have y1 := (hq.2 1 (.int .i64 0) rfl).1
      refine bodyPost_ret (v := .tuple #[.agg #[.int .i64 0, .int .i64 0], .int .i64 (2)]) (by simp [results, Try.f35, go_sem, y0, y1]) rfl ?_
      exact ⟨ret_rngE (r := ⟨0, 0⟩) HNE.out.symm HER.out.symm, (HB2.out.below.setCell (p := ⟨w.heap.size + 1, 0, none⟩) (by show w.heap.size ≤ w.heap.size + 1; omega) _).setCell (p := ⟨w.heap.size + 1, 1, none⟩) (by show w.heap.size ≤ w.heap.size + 1; omega) _⟩
    · have HER : Hid (keptE p l = 0) := hid (by rw [HE.out, hs]; rfl)
      have HNE : Hid (keptV p l = keptX p l) := hid (by rw [keptV, if_pos HER.out])
      have HSS := hid hs
      clear hs
      have e0 := HB2.out.cell1 0 (v := .slice lp ln lc) rfl; have e1 := HB2.out.cell1 1 (v := .int .i64 p.reserve) rfl; have e2 := HB2.out.cell1 2 (v := .slice tp tn tc) rfl; have e3 := HB2.out.cell1 3 (v := .slice rp rn rc) rfl
      go_wp2_with fail
      (with_reducible refine (HK.out _ HB2.out.below HSS.out HOK.out).mono ?_)
      rintro e w3 ⟨rfl, hb⟩
      have HB3 := hid (HB2.out.step (hb.mono HB2.out.size))
      have HR3 := hid (HR2.out.below hb)
      clear hb e0 e1 e2 e3
      obtain ⟨L, hL⟩ : ∃ z, (keptX p l).lo = z := ⟨_, rfl⟩
      obtain ⟨H, hH⟩ : ∃ z, (keptX p l).hi = z := ⟨_, rfl⟩
      have HNL : Hid (keptV p l = ⟨L, H⟩) := hid (by rw [HNE.out, ← hL, ← hH])
      rw [hL, hH]
      clear hL hH
      have z0 := (HR3.out.2 0 (.int .i64 0) rfl).1; have z1 := (HR3.out.2 1 (.int .i64 0) rfl).1; have z2 := (HR3.out.2 0 (.int .i64 0) rfl).2; have z3 := (HR3.out.2 1 (.int .i64 0) rfl).2
      go_wp2_with fail
      have hq := HR3.out.setRng (r := ⟨0, 0⟩) (q := ⟨L, H⟩)
      have y0 := (hq.2 0 (.int .i64 L) rfl).1; have y1 := (hq.2 1 (.int .i64 H) rfl).1
      refine bodyPost_ret (v := .tuple #[.agg #[.int .i64 L, .int .i64 H], .int .i64 (0)]) (by simp [results, Try.f35, go_sem, y0, y1]) rfl ?_
      exact ⟨ret_rngE (r := ⟨L, H⟩) HNL.out.symm HER.out.symm, (HB3.out.below.setCell (p := ⟨w.heap.size + 1, 0, none⟩) (by show w.heap.size ≤ w.heap.size + 1; omega) _).setCell (p := ⟨w.heap.size + 1, 1, none⟩) (by show w.heap.size ≤ w.heap.size + 1; omega) _⟩
  · have hE : (faultP p != 0) = true := by simpa using h0
    have HER : Hid (keptE p l = faultP p) := hid (by rw [keptE, if_neg h0])
    have HNE : Hid (keptV p l = ⟨0, 0⟩) := hid (by rw [keptV, if_neg (by rw [HER.out]; exact h0)])
    clear h0
    have z0 := (HR1.out.2 0 (.int .i64 0) rfl).1; have z1 := (HR1.out.2 1 (.int .i64 0) rfl).1; have z2 := (HR1.out.2 0 (.int .i64 0) rfl).2; have z3 := (HR1.out.2 1 (.int .i64 0) rfl).2
    go_wp2_with fail
    have hq := HR1.out.setRng (r := ⟨0, 0⟩) (q := ⟨0, 0⟩)
    have y0 := (hq.2 0 (.int .i64 0) rfl).1; have y1 := (hq.2 1 (.int .i64 0) rfl).1
    refine bodyPost_ret (v := .tuple #[.agg #[.int .i64 0, .int .i64 0], .int .i64 (faultP p)]) (by simp [results, Try.f35, go_sem, y0, y1]) rfl ?_
    exact ⟨ret_rngE (r := ⟨0, 0⟩) HNE.out.symm HER.out.symm, (HB1.out.below.setCell (p := ⟨w.heap.size + 1, 0, none⟩) (by show w.heap.size ≤ w.heap.size + 1; omega) _).setCell (p := ⟨w.heap.size + 1, 1, none⟩) (by show w.heap.size ≤ w.heap.size + 1; omega) _⟩
theorem field51 (a b : Int) (V : World) : (Instr.field 51 (.agg #[.int .i64 a, .int .i64 b]) 1).run Try.prog V = .ok (.int .i64 b) V := by kernel_rfl
open Classical in
noncomputable def proveB (p : Prg) (l : List Int) (pr : Int) : Bool := decide (faultP p = 0) && (setB p.ts l && (decide (priceL p.ts l ≤ pr) && decide ((keptX p l).hi ≤ p.reserve)))

set_option maxRecDepth 40000 in
set_option maxHeartbeats 4000000 in
theorem prove36_0 (p : Prg) (lp : Option Addr) (ln lc : Nat) (tp : Option Addr) (tn tc : Nat) (rp : Option Addr) (rn rc : Nat) (q : Option Addr) (m c : Nat) (l : List Int) (pr : Int) (w : World) (hp : PrgAt w p lp ln tp tn rp rn) (_hl : IntsAt w q m l) (_hm : m ≤ 100000) (h0 : faultP p ≠ 0) : Calls Try.prog 36 #[.agg #[.slice lp ln lc, .int .i64 p.reserve, .slice tp tn tc, .slice rp rn rc], .slice q m c, .int .i64 pr] w fun e w' => e = .returned (.bool (proveB p l pr)) ∧ Below w.heap.size w w' := by
  have HC := hid (fun W (hW : Below w.heap.size w W) => check_any p lp ln lc tp tn tc rp rn rc W (hp.below hW))
  have HTN := hid hp.t.1
  have H0 : Hid (Boxed1 w #[.slice lp ln lc, .int .i64 p.reserve, .slice tp tn tc, .slice rp rn rc] 37 (w.alloc (.cells #[.slice lp ln lc, .int .i64 p.reserve, .slice tp tn tc, .slice rp rn rc] 37))) := hid (Boxed1.start _ _ _)
  have HF2 : Hid ((faultP p == 0) = false) := hid (by simpa using h0)
  have HRES : Hid (proveB p l pr = false) := hid (by simp [proveB, h0])
  clear hp _hl h0
  go_enter Try.func36, Try.ntmps36
  go_upto_region 1 with fail
  refine wp_region_held_drew (S := fun V => Boxed1 w #[.slice lp ln lc, .int .i64 p.reserve, .slice tp tn tc, .slice rp rn rc] 37 V) (by kernel_rfl) (H0.out.drew) (fun hS => ?_)
  simp only [List.size_toArray, List.length_cons, List.length_nil, Nat.reduceAdd, Array.replicate_succ, Array.replicate_zero, List.push_toArray, List.nil_append, List.cons_append]
  refine tkH (i := 0) (v := ?_) (fun V hV => ?_) ?_
  rotate_left
  · have e0 := hV.cell 0 (v := .slice lp ln lc) rfl; have e1 := hV.cell 1 (v := .int .i64 p.reserve) rfl; have e2 := hV.cell 2 (v := .slice tp tn tc) rfl; have e3 := hV.cell 3 (v := .slice rp rn rc) rfl; go_simp
    try with_reducible rfl
  try simp only [Act.put, List.getElem_toArray, List.getElem_cons_zero, List.setIfInBounds_toArray, List.set_cons_zero, List.set_cons_succ]
  refine wpAnyH_ready (rs := [1]) (by kernel_rfl) (by simp) ?_
  refine AllReadyH.cons (o := _) rfl (fun K hK => ?_) AllReadyH.nil
  go_simp
  (with_reducible refine (HC.out _ hS.below).mono ?_)
  rintro e v1 ⟨rfl, hb⟩
  refine hK.out _ _ (hS.step hb) (fun hS => ?_)
  clear hK K
  try simp only [List.setIfInBounds_toArray, List.set_cons_zero, List.set_cons_succ]
  refine tkH (i := 2) (v := ?_) (fun V hV => ?_) ?_
  rotate_left
  · have q1 := HF2.out; go_simp
    try with_reducible rfl
  try simp only [Act.put, List.getElem_toArray, List.getElem_cons_zero, List.getElem_cons_succ, List.setIfInBounds_toArray, List.set_cons_zero, List.set_cons_succ]
  refine tkH (i := 3) (v := ?_) (fun V hV => ?_) ?_
  rotate_left
  · go_simp
    try with_reducible rfl
  try simp only [Act.put, List.getElem_toArray, List.getElem_cons_zero, List.getElem_cons_succ, List.setIfInBounds_toArray, List.set_cons_zero, List.set_cons_succ]
  refine tkU (i := 4) ?_
  try simp only [Act.put, List.getElem_toArray, List.getElem_cons_zero, List.getElem_cons_succ, List.setIfInBounds_toArray, List.set_cons_zero, List.set_cons_succ]
  refine tkU (i := 5) ?_
  try simp only [Act.put, List.getElem_toArray, List.getElem_cons_zero, List.getElem_cons_succ, List.setIfInBounds_toArray, List.set_cons_zero, List.set_cons_succ]
  refine tkU (i := 6) ?_
  try simp only [Act.put, List.getElem_toArray, List.getElem_cons_zero, List.getElem_cons_succ, List.setIfInBounds_toArray, List.set_cons_zero, List.set_cons_succ]
  refine tkH (i := 7) (v := ?_) (fun V hV => ?_) ?_
  rotate_left
  · go_simp
    try with_reducible rfl
  try simp only [Act.put, List.getElem_toArray, List.getElem_cons_zero, List.getElem_cons_succ, List.setIfInBounds_toArray, List.set_cons_zero, List.set_cons_succ]
  refine tkH (i := 8) (v := ?_) (fun V hV => ?_) ?_
  rotate_left
  · go_simp
    try with_reducible rfl
  try simp only [Act.put, List.getElem_toArray, List.getElem_cons_zero, List.getElem_cons_succ, List.setIfInBounds_toArray, List.set_cons_zero, List.set_cons_succ]
  refine tkU (i := 9) ?_
  try simp only [Act.put, List.getElem_toArray, List.getElem_cons_zero, List.getElem_cons_succ, List.setIfInBounds_toArray, List.set_cons_zero, List.set_cons_succ]
  refine tkU (i := 10) ?_
  try simp only [Act.put, List.getElem_toArray, List.getElem_cons_zero, List.getElem_cons_succ, List.setIfInBounds_toArray, List.set_cons_zero, List.set_cons_succ]
  refine tkU (i := 11) ?_
  try simp only [Act.put, List.getElem_toArray, List.getElem_cons_zero, List.getElem_cons_succ, List.setIfInBounds_toArray, List.set_cons_zero, List.set_cons_succ]
  refine tkU (i := 12) ?_
  try simp only [Act.put, List.getElem_toArray, List.getElem_cons_zero, List.getElem_cons_succ, List.setIfInBounds_toArray, List.set_cons_zero, List.set_cons_succ]
  refine tkU (i := 13) ?_
  try simp only [Act.put, List.getElem_toArray, List.getElem_cons_zero, List.getElem_cons_succ, List.setIfInBounds_toArray, List.set_cons_zero, List.set_cons_succ]
  refine tkH (i := 14) (v := ?_) (fun V hV => ?_) ?_
  rotate_left
  · go_simp
    try with_reducible rfl
  try simp only [Act.put, List.getElem_toArray, List.getElem_cons_zero, List.getElem_cons_succ, List.setIfInBounds_toArray, List.set_cons_zero, List.set_cons_succ]
  refine tkH (i := 15) (v := ?_) (fun V hV => ?_) ?_
  rotate_left
  · go_simp
    try with_reducible rfl
  try simp only [Act.put, List.getElem_toArray, List.getElem_cons_zero, List.getElem_cons_succ, List.setIfInBounds_toArray, List.set_cons_zero, List.set_cons_succ]
  refine tkU (i := 16) ?_
  try simp only [Act.put, List.getElem_toArray, List.getElem_cons_zero, List.getElem_cons_succ, List.setIfInBounds_toArray, List.set_cons_zero, List.set_cons_succ]
  refine tkU (i := 17) ?_
  try simp only [Act.put, List.getElem_toArray, List.getElem_cons_zero, List.getElem_cons_succ, List.setIfInBounds_toArray, List.set_cons_zero, List.set_cons_succ]
  refine tkU (i := 18) ?_
  try simp only [Act.put, List.getElem_toArray, List.getElem_cons_zero, List.getElem_cons_succ, List.setIfInBounds_toArray, List.set_cons_zero, List.set_cons_succ]
  refine tkU (i := 19) ?_
  try simp only [Act.put, List.getElem_toArray, List.getElem_cons_zero, List.getElem_cons_succ, List.setIfInBounds_toArray, List.set_cons_zero, List.set_cons_succ]
  refine tkU (i := 20) ?_
  try simp only [Act.put, List.getElem_toArray, List.getElem_cons_zero, List.getElem_cons_succ, List.setIfInBounds_toArray, List.set_cons_zero, List.set_cons_succ]
  refine tkU (i := 21) ?_
  try simp only [Act.put, List.getElem_toArray, List.getElem_cons_zero, List.getElem_cons_succ, List.setIfInBounds_toArray, List.set_cons_zero, List.set_cons_succ]
  refine tkU (i := 22) ?_
  try simp only [Act.put, List.getElem_toArray, List.getElem_cons_zero, List.getElem_cons_succ, List.setIfInBounds_toArray, List.set_cons_zero, List.set_cons_succ]
  refine tkH (i := 23) (v := ?_) (fun V hV => ?_) ?_
  rotate_left
  · go_simp
    try with_reducible rfl
  try simp only [Act.put, List.getElem_toArray, List.getElem_cons_zero, List.getElem_cons_succ, List.setIfInBounds_toArray, List.set_cons_zero, List.set_cons_succ]
  refine tkH (i := 24) (v := ?_) (fun V hV => ?_) ?_
  rotate_left
  · go_simp
    try with_reducible rfl
  try simp only [Act.put, List.getElem_toArray, List.getElem_cons_zero, List.getElem_cons_succ, List.setIfInBounds_toArray, List.set_cons_zero, List.set_cons_succ]
  refine wpAnyH_done (by kernel_rfl) ?_ _
  go_wp2_with fail
  go_ret
  exact ⟨ret_bool HRES.out.symm, hS.below⟩

set_option maxRecDepth 40000 in
set_option maxHeartbeats 4000000 in
theorem prove36_1 (p : Prg) (lp : Option Addr) (ln lc : Nat) (tp : Option Addr) (tn tc : Nat) (rp : Option Addr) (rn rc : Nat) (q : Option Addr) (m c : Nat) (l : List Int) (pr : Int) (w : World) (hp : PrgAt w p lp ln tp tn rp rn) (hl : IntsAt w q m l) (hm : m ≤ 100000) (h0 : faultP p = 0) (hs : setB p.ts l = false) : Calls Try.prog 36 #[.agg #[.slice lp ln lc, .int .i64 p.reserve, .slice tp tn tc, .slice rp rn rc], .slice q m c, .int .i64 pr] w fun e w' => e = .returned (.bool (proveB p l pr)) ∧ Below w.heap.size w w' := by
  have HC := hid (fun W (hW : Below w.heap.size w W) => check_any p lp ln lc tp tn tc rp rn rc W (hp.below hW))
  have HTN := hid hp.t.1
  have H0 : Hid (Boxed1 w #[.slice lp ln lc, .int .i64 p.reserve, .slice tp tn tc, .slice rp rn rc] 37 (w.alloc (.cells #[.slice lp ln lc, .int .i64 p.reserve, .slice tp tn tc, .slice rp rn rc] 37))) := hid (Boxed1.start _ _ _)
  have HOK := hid (fault_iff.1 h0)
  have HF := hid h0
  have ht5 : tn ≤ 1000 := by have := HTN.out; have := HOK.out.m5; omega
  have HST := hid (fun W (hW : Below w.heap.size w W) (h5 : tn ≤ 1000) => set89_any p lp ln lc tp tn tc rp rn rc q m c l W (hp.below hW) (hl.below hW) (by omega) h5)
  have HSV := hid hs
  have HRES : Hid (proveB p l pr = false) := hid (by simp [proveB, hs])
  clear hp hl h0 hs
  go_enter Try.func36, Try.ntmps36
  go_upto_region 1 with fail
  refine wp_region_held_drew (S := fun V => Boxed1 w #[.slice lp ln lc, .int .i64 p.reserve, .slice tp tn tc, .slice rp rn rc] 37 V) (by kernel_rfl) (H0.out.drew) (fun hS => ?_)
  simp only [List.size_toArray, List.length_cons, List.length_nil, Nat.reduceAdd, Array.replicate_succ, Array.replicate_zero, List.push_toArray, List.nil_append, List.cons_append]
  refine tkH (i := 0) (v := ?_) (fun V hV => ?_) ?_
  rotate_left
  · have e0 := hV.cell 0 (v := .slice lp ln lc) rfl; have e1 := hV.cell 1 (v := .int .i64 p.reserve) rfl; have e2 := hV.cell 2 (v := .slice tp tn tc) rfl; have e3 := hV.cell 3 (v := .slice rp rn rc) rfl; go_simp
    try with_reducible rfl
  try simp only [Act.put, List.getElem_toArray, List.getElem_cons_zero, List.setIfInBounds_toArray, List.set_cons_zero, List.set_cons_succ]
  refine wpAnyH_ready (rs := [1]) (by kernel_rfl) (by simp) ?_
  refine AllReadyH.cons (o := _) rfl (fun K hK => ?_) AllReadyH.nil
  go_simp
  (with_reducible refine (HC.out _ hS.below).mono ?_)
  rintro e v1 ⟨rfl, hb⟩
  rw [HF.out]
  refine hK.out _ _ (hS.step hb) (fun hS => ?_)
  clear hK K
  try simp only [List.setIfInBounds_toArray, List.set_cons_zero, List.set_cons_succ]
  refine tkH (i := 2) (v := ?_) (fun V hV => ?_) ?_
  rotate_left
  · go_simp
    try with_reducible rfl
  try simp only [Act.put, List.getElem_toArray, List.getElem_cons_zero, List.getElem_cons_succ, List.setIfInBounds_toArray, List.set_cons_zero, List.set_cons_succ]
  refine tkH (i := 3) (v := ?_) (fun V hV => ?_) ?_
  rotate_left
  · go_simp
    try with_reducible rfl
  try simp only [Act.put, List.getElem_toArray, List.getElem_cons_zero, List.getElem_cons_succ, List.setIfInBounds_toArray, List.set_cons_zero, List.set_cons_succ]
  refine tkH (i := 4) (v := ?_) (fun V hV => ?_) ?_
  rotate_left
  · have e0 := hV.cell 0 (v := .slice lp ln lc) rfl; have e1 := hV.cell 1 (v := .int .i64 p.reserve) rfl; have e2 := hV.cell 2 (v := .slice tp tn tc) rfl; have e3 := hV.cell 3 (v := .slice rp rn rc) rfl; go_simp
    try with_reducible rfl
  try simp only [Act.put, List.getElem_toArray, List.getElem_cons_zero, List.getElem_cons_succ, List.setIfInBounds_toArray, List.set_cons_zero, List.set_cons_succ]
  refine tkH (i := 5) (v := ?_) (fun V hV => ?_) ?_
  rotate_left
  · go_simp
    try with_reducible rfl
  try simp only [Act.put, List.getElem_toArray, List.getElem_cons_zero, List.getElem_cons_succ, List.setIfInBounds_toArray, List.set_cons_zero, List.set_cons_succ]
  refine wpAnyH_ready (rs := [6]) (by kernel_rfl) (by simp) ?_
  refine AllReadyH.cons (o := _) rfl (fun K hK => ?_) AllReadyH.nil
  go_simp
  (with_reducible refine (HST.out _ hS.below ht5).mono ?_)
  rintro e v6 ⟨rfl, hb⟩
  rw [HSV.out]
  refine hK.out _ _ (hS.step hb) (fun hS => ?_)
  clear hK K
  try simp only [List.setIfInBounds_toArray, List.set_cons_zero, List.set_cons_succ]
  refine tkH (i := 7) (v := ?_) (fun V hV => ?_) ?_
  rotate_left
  · go_simp
    try with_reducible rfl
  try simp only [Act.put, List.getElem_toArray, List.getElem_cons_zero, List.getElem_cons_succ, List.setIfInBounds_toArray, List.set_cons_zero, List.set_cons_succ]
  refine tkH (i := 8) (v := ?_) (fun V hV => ?_) ?_
  rotate_left
  · go_simp
    try with_reducible rfl
  try simp only [Act.put, List.getElem_toArray, List.getElem_cons_zero, List.getElem_cons_succ, List.setIfInBounds_toArray, List.set_cons_zero, List.set_cons_succ]
  refine tkU (i := 9) ?_
  try simp only [Act.put, List.getElem_toArray, List.getElem_cons_zero, List.getElem_cons_succ, List.setIfInBounds_toArray, List.set_cons_zero, List.set_cons_succ]
  refine tkU (i := 10) ?_
  try simp only [Act.put, List.getElem_toArray, List.getElem_cons_zero, List.getElem_cons_succ, List.setIfInBounds_toArray, List.set_cons_zero, List.set_cons_succ]
  refine tkU (i := 11) ?_
  try simp only [Act.put, List.getElem_toArray, List.getElem_cons_zero, List.getElem_cons_succ, List.setIfInBounds_toArray, List.set_cons_zero, List.set_cons_succ]
  refine tkU (i := 12) ?_
  try simp only [Act.put, List.getElem_toArray, List.getElem_cons_zero, List.getElem_cons_succ, List.setIfInBounds_toArray, List.set_cons_zero, List.set_cons_succ]
  refine tkU (i := 13) ?_
  try simp only [Act.put, List.getElem_toArray, List.getElem_cons_zero, List.getElem_cons_succ, List.setIfInBounds_toArray, List.set_cons_zero, List.set_cons_succ]
  refine tkH (i := 14) (v := ?_) (fun V hV => ?_) ?_
  rotate_left
  · go_simp
    try with_reducible rfl
  try simp only [Act.put, List.getElem_toArray, List.getElem_cons_zero, List.getElem_cons_succ, List.setIfInBounds_toArray, List.set_cons_zero, List.set_cons_succ]
  refine tkH (i := 15) (v := ?_) (fun V hV => ?_) ?_
  rotate_left
  · go_simp
    try with_reducible rfl
  try simp only [Act.put, List.getElem_toArray, List.getElem_cons_zero, List.getElem_cons_succ, List.setIfInBounds_toArray, List.set_cons_zero, List.set_cons_succ]
  refine tkU (i := 16) ?_
  try simp only [Act.put, List.getElem_toArray, List.getElem_cons_zero, List.getElem_cons_succ, List.setIfInBounds_toArray, List.set_cons_zero, List.set_cons_succ]
  refine tkU (i := 17) ?_
  try simp only [Act.put, List.getElem_toArray, List.getElem_cons_zero, List.getElem_cons_succ, List.setIfInBounds_toArray, List.set_cons_zero, List.set_cons_succ]
  refine tkU (i := 18) ?_
  try simp only [Act.put, List.getElem_toArray, List.getElem_cons_zero, List.getElem_cons_succ, List.setIfInBounds_toArray, List.set_cons_zero, List.set_cons_succ]
  refine tkU (i := 19) ?_
  try simp only [Act.put, List.getElem_toArray, List.getElem_cons_zero, List.getElem_cons_succ, List.setIfInBounds_toArray, List.set_cons_zero, List.set_cons_succ]
  refine tkU (i := 20) ?_
  try simp only [Act.put, List.getElem_toArray, List.getElem_cons_zero, List.getElem_cons_succ, List.setIfInBounds_toArray, List.set_cons_zero, List.set_cons_succ]
  refine tkU (i := 21) ?_
  try simp only [Act.put, List.getElem_toArray, List.getElem_cons_zero, List.getElem_cons_succ, List.setIfInBounds_toArray, List.set_cons_zero, List.set_cons_succ]
  refine tkU (i := 22) ?_
  try simp only [Act.put, List.getElem_toArray, List.getElem_cons_zero, List.getElem_cons_succ, List.setIfInBounds_toArray, List.set_cons_zero, List.set_cons_succ]
  refine tkH (i := 23) (v := ?_) (fun V hV => ?_) ?_
  rotate_left
  · go_simp
    try with_reducible rfl
  try simp only [Act.put, List.getElem_toArray, List.getElem_cons_zero, List.getElem_cons_succ, List.setIfInBounds_toArray, List.set_cons_zero, List.set_cons_succ]
  refine tkH (i := 24) (v := ?_) (fun V hV => ?_) ?_
  rotate_left
  · go_simp
    try with_reducible rfl
  try simp only [Act.put, List.getElem_toArray, List.getElem_cons_zero, List.getElem_cons_succ, List.setIfInBounds_toArray, List.set_cons_zero, List.set_cons_succ]
  refine wpAnyH_done (by kernel_rfl) ?_ _
  go_wp2_with fail
  go_ret
  exact ⟨ret_bool HRES.out.symm, hS.below⟩

set_option maxRecDepth 40000 in
set_option maxHeartbeats 4000000 in
theorem prove36_2 (p : Prg) (lp : Option Addr) (ln lc : Nat) (tp : Option Addr) (tn tc : Nat) (rp : Option Addr) (rn rc : Nat) (q : Option Addr) (m c : Nat) (l : List Int) (pr : Int) (w : World) (hp : PrgAt w p lp ln tp tn rp rn) (hl : IntsAt w q m l) (hm : m ≤ 100000) (h0 : faultP p = 0) (hs : setB p.ts l = true) (hpr : ¬ priceL p.ts l ≤ pr) : Calls Try.prog 36 #[.agg #[.slice lp ln lc, .int .i64 p.reserve, .slice tp tn tc, .slice rp rn rc], .slice q m c, .int .i64 pr] w fun e w' => e = .returned (.bool (proveB p l pr)) ∧ Below w.heap.size w w' := by
  have HC := hid (fun W (hW : Below w.heap.size w W) => check_any p lp ln lc tp tn tc rp rn rc W (hp.below hW))
  have HTN := hid hp.t.1
  have H0 : Hid (Boxed1 w #[.slice lp ln lc, .int .i64 p.reserve, .slice tp tn tc, .slice rp rn rc] 37 (w.alloc (.cells #[.slice lp ln lc, .int .i64 p.reserve, .slice tp tn tc, .slice rp rn rc] 37))) := hid (Boxed1.start _ _ _)
  have HOK := hid (fault_iff.1 h0)
  have HF := hid h0
  have ht5 : tn ≤ 1000 := by have := HTN.out; have := HOK.out.m5; omega
  have HST := hid (fun W (hW : Below w.heap.size w W) (h5 : tn ≤ 1000) => set89_any p lp ln lc tp tn tc rp rn rc q m c l W (hp.below hW) (hl.below hW) (by omega) h5)
  have HSS := hid hs
  have HSV : Hid (setB p.ts l = true) := hid hs
  have HPR := hid (fun W (hW : Below w.heap.size w W) (hs : setB p.ts l = true) => price91_any p lp ln lc tp tn tc rp rn rc q m c l W (hp.below hW) (hl.below hW) hm (inTs_of hs) HOK.out.prices)
  have HK := hid (fun W (hW : Below w.heap.size w W) (hs : setB p.ts l = true) (ok : OkP p) => kept90_any p lp ln lc tp tn tc rp rn rc q m c l W (hp.below hW) (hl.below hW) hm (inTs_of hs) ok)
  have HPD : Hid (¬ priceL p.ts l ≤ pr) := hid hpr
  have HRES : Hid (proveB p l pr = false) := hid (by simp [proveB, hpr])
  clear hp hl h0 hs hpr
  go_enter Try.func36, Try.ntmps36
  go_upto_region 1 with fail
  refine wp_region_held_drew (S := fun V => Boxed1 w #[.slice lp ln lc, .int .i64 p.reserve, .slice tp tn tc, .slice rp rn rc] 37 V) (by kernel_rfl) (H0.out.drew) (fun hS => ?_)
  simp only [List.size_toArray, List.length_cons, List.length_nil, Nat.reduceAdd, Array.replicate_succ, Array.replicate_zero, List.push_toArray, List.nil_append, List.cons_append]
  refine tkH (i := 0) (v := ?_) (fun V hV => ?_) ?_
  rotate_left
  · have e0 := hV.cell 0 (v := .slice lp ln lc) rfl; have e1 := hV.cell 1 (v := .int .i64 p.reserve) rfl; have e2 := hV.cell 2 (v := .slice tp tn tc) rfl; have e3 := hV.cell 3 (v := .slice rp rn rc) rfl; go_simp
    try with_reducible rfl
  try simp only [Act.put, List.getElem_toArray, List.getElem_cons_zero, List.setIfInBounds_toArray, List.set_cons_zero, List.set_cons_succ]
  refine wpAnyH_ready (rs := [1]) (by kernel_rfl) (by simp) ?_
  refine AllReadyH.cons (o := _) rfl (fun K hK => ?_) AllReadyH.nil
  go_simp
  (with_reducible refine (HC.out _ hS.below).mono ?_)
  rintro e v1 ⟨rfl, hb⟩
  rw [HF.out]
  refine hK.out _ _ (hS.step hb) (fun hS => ?_)
  clear hK K
  try simp only [List.setIfInBounds_toArray, List.set_cons_zero, List.set_cons_succ]
  refine tkH (i := 2) (v := ?_) (fun V hV => ?_) ?_
  rotate_left
  · go_simp
    try with_reducible rfl
  try simp only [Act.put, List.getElem_toArray, List.getElem_cons_zero, List.getElem_cons_succ, List.setIfInBounds_toArray, List.set_cons_zero, List.set_cons_succ]
  refine tkH (i := 3) (v := ?_) (fun V hV => ?_) ?_
  rotate_left
  · go_simp
    try with_reducible rfl
  try simp only [Act.put, List.getElem_toArray, List.getElem_cons_zero, List.getElem_cons_succ, List.setIfInBounds_toArray, List.set_cons_zero, List.set_cons_succ]
  refine tkH (i := 4) (v := ?_) (fun V hV => ?_) ?_
  rotate_left
  · have e0 := hV.cell 0 (v := .slice lp ln lc) rfl; have e1 := hV.cell 1 (v := .int .i64 p.reserve) rfl; have e2 := hV.cell 2 (v := .slice tp tn tc) rfl; have e3 := hV.cell 3 (v := .slice rp rn rc) rfl; go_simp
    try with_reducible rfl
  try simp only [Act.put, List.getElem_toArray, List.getElem_cons_zero, List.getElem_cons_succ, List.setIfInBounds_toArray, List.set_cons_zero, List.set_cons_succ]
  refine tkH (i := 5) (v := ?_) (fun V hV => ?_) ?_
  rotate_left
  · go_simp
    try with_reducible rfl
  try simp only [Act.put, List.getElem_toArray, List.getElem_cons_zero, List.getElem_cons_succ, List.setIfInBounds_toArray, List.set_cons_zero, List.set_cons_succ]
  refine wpAnyH_ready (rs := [6]) (by kernel_rfl) (by simp) ?_
  refine AllReadyH.cons (o := _) rfl (fun K hK => ?_) AllReadyH.nil
  go_simp
  (with_reducible refine (HST.out _ hS.below ht5).mono ?_)
  rintro e v6 ⟨rfl, hb⟩
  rw [HSV.out]
  refine hK.out _ _ (hS.step hb) (fun hS => ?_)
  clear hK K
  try simp only [List.setIfInBounds_toArray, List.set_cons_zero, List.set_cons_succ]
  refine tkH (i := 7) (v := ?_) (fun V hV => ?_) ?_
  rotate_left
  · go_simp
    try with_reducible rfl
  try simp only [Act.put, List.getElem_toArray, List.getElem_cons_zero, List.getElem_cons_succ, List.setIfInBounds_toArray, List.set_cons_zero, List.set_cons_succ]
  refine tkH (i := 8) (v := ?_) (fun V hV => ?_) ?_
  rotate_left
  · go_simp
    try with_reducible rfl
  try simp only [Act.put, List.getElem_toArray, List.getElem_cons_zero, List.getElem_cons_succ, List.setIfInBounds_toArray, List.set_cons_zero, List.set_cons_succ]
  refine tkH (i := 9) (v := ?_) (fun V hV => ?_) ?_
  rotate_left
  · have e0 := hV.cell 0 (v := .slice lp ln lc) rfl; have e1 := hV.cell 1 (v := .int .i64 p.reserve) rfl; have e2 := hV.cell 2 (v := .slice tp tn tc) rfl; have e3 := hV.cell 3 (v := .slice rp rn rc) rfl; go_simp
    try with_reducible rfl
  try simp only [Act.put, List.getElem_toArray, List.getElem_cons_zero, List.getElem_cons_succ, List.setIfInBounds_toArray, List.set_cons_zero, List.set_cons_succ]
  refine tkH (i := 10) (v := ?_) (fun V hV => ?_) ?_
  rotate_left
  · go_simp
    try with_reducible rfl
  try simp only [Act.put, List.getElem_toArray, List.getElem_cons_zero, List.getElem_cons_succ, List.setIfInBounds_toArray, List.set_cons_zero, List.set_cons_succ]
  refine tkH (i := 12) (v := ?_) (fun V hV => ?_) ?_
  rotate_left
  · go_simp
    try with_reducible rfl
  try simp only [Act.put, List.getElem_toArray, List.getElem_cons_zero, List.getElem_cons_succ, List.setIfInBounds_toArray, List.set_cons_zero, List.set_cons_succ]
  refine wpAnyH_ready (rs := [11]) (by kernel_rfl) (by simp) ?_
  refine AllReadyH.cons (o := _) rfl (fun K hK => ?_) AllReadyH.nil
  go_simp
  (with_reducible refine (HPR.out _ hS.below HSS.out).mono ?_)
  rintro e v11 ⟨rfl, hb⟩
  refine hK.out _ _ (hS.step hb) (fun hS => ?_)
  clear hK K
  try simp only [List.setIfInBounds_toArray, List.set_cons_zero, List.set_cons_succ]
  refine tkH (i := 13) (v := ?_) (fun V hV => ?_) ?_
  rotate_left
  · have q1 := HPD.out; go_simp
    try with_reducible rfl
  try simp only [Act.put, List.getElem_toArray, List.getElem_cons_zero, List.getElem_cons_succ, List.setIfInBounds_toArray, List.set_cons_zero, List.set_cons_succ]
  refine tkH (i := 14) (v := ?_) (fun V hV => ?_) ?_
  rotate_left
  · go_simp
    try with_reducible rfl
  try simp only [Act.put, List.getElem_toArray, List.getElem_cons_zero, List.getElem_cons_succ, List.setIfInBounds_toArray, List.set_cons_zero, List.set_cons_succ]
  refine tkH (i := 15) (v := ?_) (fun V hV => ?_) ?_
  rotate_left
  · go_simp
    try with_reducible rfl
  try simp only [Act.put, List.getElem_toArray, List.getElem_cons_zero, List.getElem_cons_succ, List.setIfInBounds_toArray, List.set_cons_zero, List.set_cons_succ]
  refine tkU (i := 16) ?_
  try simp only [Act.put, List.getElem_toArray, List.getElem_cons_zero, List.getElem_cons_succ, List.setIfInBounds_toArray, List.set_cons_zero, List.set_cons_succ]
  refine tkU (i := 17) ?_
  try simp only [Act.put, List.getElem_toArray, List.getElem_cons_zero, List.getElem_cons_succ, List.setIfInBounds_toArray, List.set_cons_zero, List.set_cons_succ]
  refine tkU (i := 18) ?_
  try simp only [Act.put, List.getElem_toArray, List.getElem_cons_zero, List.getElem_cons_succ, List.setIfInBounds_toArray, List.set_cons_zero, List.set_cons_succ]
  refine tkU (i := 19) ?_
  try simp only [Act.put, List.getElem_toArray, List.getElem_cons_zero, List.getElem_cons_succ, List.setIfInBounds_toArray, List.set_cons_zero, List.set_cons_succ]
  refine tkU (i := 20) ?_
  try simp only [Act.put, List.getElem_toArray, List.getElem_cons_zero, List.getElem_cons_succ, List.setIfInBounds_toArray, List.set_cons_zero, List.set_cons_succ]
  refine tkU (i := 21) ?_
  try simp only [Act.put, List.getElem_toArray, List.getElem_cons_zero, List.getElem_cons_succ, List.setIfInBounds_toArray, List.set_cons_zero, List.set_cons_succ]
  refine tkU (i := 22) ?_
  try simp only [Act.put, List.getElem_toArray, List.getElem_cons_zero, List.getElem_cons_succ, List.setIfInBounds_toArray, List.set_cons_zero, List.set_cons_succ]
  refine tkH (i := 23) (v := ?_) (fun V hV => ?_) ?_
  rotate_left
  · go_simp
    try with_reducible rfl
  try simp only [Act.put, List.getElem_toArray, List.getElem_cons_zero, List.getElem_cons_succ, List.setIfInBounds_toArray, List.set_cons_zero, List.set_cons_succ]
  refine tkH (i := 24) (v := ?_) (fun V hV => ?_) ?_
  rotate_left
  · go_simp
    try with_reducible rfl
  try simp only [Act.put, List.getElem_toArray, List.getElem_cons_zero, List.getElem_cons_succ, List.setIfInBounds_toArray, List.set_cons_zero, List.set_cons_succ]
  refine wpAnyH_done (by kernel_rfl) ?_ _
  go_wp2_with fail
  go_ret
  exact ⟨ret_bool HRES.out.symm, hS.below⟩

set_option maxRecDepth 40000 in
set_option maxHeartbeats 4000000 in
theorem prove36_3 (p : Prg) (lp : Option Addr) (ln lc : Nat) (tp : Option Addr) (tn tc : Nat) (rp : Option Addr) (rn rc : Nat) (q : Option Addr) (m c : Nat) (l : List Int) (pr : Int) (w : World) (hp : PrgAt w p lp ln tp tn rp rn) (hl : IntsAt w q m l) (hm : m ≤ 100000) (h0 : faultP p = 0) (hs : setB p.ts l = true) (hpr : priceL p.ts l ≤ pr) : Calls Try.prog 36 #[.agg #[.slice lp ln lc, .int .i64 p.reserve, .slice tp tn tc, .slice rp rn rc], .slice q m c, .int .i64 pr] w fun e w' => e = .returned (.bool (proveB p l pr)) ∧ Below w.heap.size w w' := by
  have HC := hid (fun W (hW : Below w.heap.size w W) => check_any p lp ln lc tp tn tc rp rn rc W (hp.below hW))
  have HTN := hid hp.t.1
  have H0 : Hid (Boxed1 w #[.slice lp ln lc, .int .i64 p.reserve, .slice tp tn tc, .slice rp rn rc] 37 (w.alloc (.cells #[.slice lp ln lc, .int .i64 p.reserve, .slice tp tn tc, .slice rp rn rc] 37))) := hid (Boxed1.start _ _ _)
  have HOK := hid (fault_iff.1 h0)
  have HF := hid h0
  have ht5 : tn ≤ 1000 := by have := HTN.out; have := HOK.out.m5; omega
  have HST := hid (fun W (hW : Below w.heap.size w W) (h5 : tn ≤ 1000) => set89_any p lp ln lc tp tn tc rp rn rc q m c l W (hp.below hW) (hl.below hW) (by omega) h5)
  have HSS := hid hs
  have HSV : Hid (setB p.ts l = true) := hid hs
  have HPR := hid (fun W (hW : Below w.heap.size w W) (hs : setB p.ts l = true) => price91_any p lp ln lc tp tn tc rp rn rc q m c l W (hp.below hW) (hl.below hW) hm (inTs_of hs) HOK.out.prices)
  have HK := hid (fun W (hW : Below w.heap.size w W) (hs : setB p.ts l = true) (ok : OkP p) => kept90_any p lp ln lc tp tn tc rp rn rc q m c l W (hp.below hW) (hl.below hW) hm (inTs_of hs) ok)
  have HPD : Hid (priceL p.ts l ≤ pr) := hid hpr
  have HRES : Hid (proveB p l pr = decide ((keptX p l).hi ≤ p.reserve)) := hid (by simp [proveB, hpr, hs, h0])
  clear hp hl h0 hs hpr
  go_enter Try.func36, Try.ntmps36
  go_upto_region 1 with fail
  refine wp_region_held_drew (S := fun V => Boxed1 w #[.slice lp ln lc, .int .i64 p.reserve, .slice tp tn tc, .slice rp rn rc] 37 V) (by kernel_rfl) (H0.out.drew) (fun hS => ?_)
  simp only [List.size_toArray, List.length_cons, List.length_nil, Nat.reduceAdd, Array.replicate_succ, Array.replicate_zero, List.push_toArray, List.nil_append, List.cons_append]
  refine tkH (i := 0) (v := ?_) (fun V hV => ?_) ?_
  rotate_left
  · have e0 := hV.cell 0 (v := .slice lp ln lc) rfl; have e1 := hV.cell 1 (v := .int .i64 p.reserve) rfl; have e2 := hV.cell 2 (v := .slice tp tn tc) rfl; have e3 := hV.cell 3 (v := .slice rp rn rc) rfl; go_simp
    try with_reducible rfl
  try simp only [Act.put, List.getElem_toArray, List.getElem_cons_zero, List.setIfInBounds_toArray, List.set_cons_zero, List.set_cons_succ]
  refine wpAnyH_ready (rs := [1]) (by kernel_rfl) (by simp) ?_
  refine AllReadyH.cons (o := _) rfl (fun K hK => ?_) AllReadyH.nil
  go_simp
  (with_reducible refine (HC.out _ hS.below).mono ?_)
  rintro e v1 ⟨rfl, hb⟩
  rw [HF.out]
  refine hK.out _ _ (hS.step hb) (fun hS => ?_)
  clear hK K
  try simp only [List.setIfInBounds_toArray, List.set_cons_zero, List.set_cons_succ]
  refine tkH (i := 2) (v := ?_) (fun V hV => ?_) ?_
  rotate_left
  · go_simp
    try with_reducible rfl
  try simp only [Act.put, List.getElem_toArray, List.getElem_cons_zero, List.getElem_cons_succ, List.setIfInBounds_toArray, List.set_cons_zero, List.set_cons_succ]
  refine tkH (i := 3) (v := ?_) (fun V hV => ?_) ?_
  rotate_left
  · go_simp
    try with_reducible rfl
  try simp only [Act.put, List.getElem_toArray, List.getElem_cons_zero, List.getElem_cons_succ, List.setIfInBounds_toArray, List.set_cons_zero, List.set_cons_succ]
  refine tkH (i := 4) (v := ?_) (fun V hV => ?_) ?_
  rotate_left
  · have e0 := hV.cell 0 (v := .slice lp ln lc) rfl; have e1 := hV.cell 1 (v := .int .i64 p.reserve) rfl; have e2 := hV.cell 2 (v := .slice tp tn tc) rfl; have e3 := hV.cell 3 (v := .slice rp rn rc) rfl; go_simp
    try with_reducible rfl
  try simp only [Act.put, List.getElem_toArray, List.getElem_cons_zero, List.getElem_cons_succ, List.setIfInBounds_toArray, List.set_cons_zero, List.set_cons_succ]
  refine tkH (i := 5) (v := ?_) (fun V hV => ?_) ?_
  rotate_left
  · go_simp
    try with_reducible rfl
  try simp only [Act.put, List.getElem_toArray, List.getElem_cons_zero, List.getElem_cons_succ, List.setIfInBounds_toArray, List.set_cons_zero, List.set_cons_succ]
  refine wpAnyH_ready (rs := [6]) (by kernel_rfl) (by simp) ?_
  refine AllReadyH.cons (o := _) rfl (fun K hK => ?_) AllReadyH.nil
  go_simp
  (with_reducible refine (HST.out _ hS.below ht5).mono ?_)
  rintro e v6 ⟨rfl, hb⟩
  rw [HSV.out]
  refine hK.out _ _ (hS.step hb) (fun hS => ?_)
  clear hK K
  try simp only [List.setIfInBounds_toArray, List.set_cons_zero, List.set_cons_succ]
  refine tkH (i := 7) (v := ?_) (fun V hV => ?_) ?_
  rotate_left
  · go_simp
    try with_reducible rfl
  try simp only [Act.put, List.getElem_toArray, List.getElem_cons_zero, List.getElem_cons_succ, List.setIfInBounds_toArray, List.set_cons_zero, List.set_cons_succ]
  refine tkH (i := 8) (v := ?_) (fun V hV => ?_) ?_
  rotate_left
  · go_simp
    try with_reducible rfl
  try simp only [Act.put, List.getElem_toArray, List.getElem_cons_zero, List.getElem_cons_succ, List.setIfInBounds_toArray, List.set_cons_zero, List.set_cons_succ]
  refine tkH (i := 9) (v := ?_) (fun V hV => ?_) ?_
  rotate_left
  · have e0 := hV.cell 0 (v := .slice lp ln lc) rfl; have e1 := hV.cell 1 (v := .int .i64 p.reserve) rfl; have e2 := hV.cell 2 (v := .slice tp tn tc) rfl; have e3 := hV.cell 3 (v := .slice rp rn rc) rfl; go_simp
    try with_reducible rfl
  try simp only [Act.put, List.getElem_toArray, List.getElem_cons_zero, List.getElem_cons_succ, List.setIfInBounds_toArray, List.set_cons_zero, List.set_cons_succ]
  refine tkH (i := 10) (v := ?_) (fun V hV => ?_) ?_
  rotate_left
  · go_simp
    try with_reducible rfl
  try simp only [Act.put, List.getElem_toArray, List.getElem_cons_zero, List.getElem_cons_succ, List.setIfInBounds_toArray, List.set_cons_zero, List.set_cons_succ]
  refine tkH (i := 12) (v := ?_) (fun V hV => ?_) ?_
  rotate_left
  · go_simp
    try with_reducible rfl
  try simp only [Act.put, List.getElem_toArray, List.getElem_cons_zero, List.getElem_cons_succ, List.setIfInBounds_toArray, List.set_cons_zero, List.set_cons_succ]
  refine wpAnyH_ready (rs := [11]) (by kernel_rfl) (by simp) ?_
  refine AllReadyH.cons (o := _) rfl (fun K hK => ?_) AllReadyH.nil
  go_simp
  (with_reducible refine (HPR.out _ hS.below HSS.out).mono ?_)
  rintro e v11 ⟨rfl, hb⟩
  refine hK.out _ _ (hS.step hb) (fun hS => ?_)
  clear hK K
  try simp only [List.setIfInBounds_toArray, List.set_cons_zero, List.set_cons_succ]
  refine tkH (i := 13) (v := ?_) (fun V hV => ?_) ?_
  rotate_left
  · have q1 := HPD.out; go_simp
    try with_reducible rfl
  try simp only [Act.put, List.getElem_toArray, List.getElem_cons_zero, List.getElem_cons_succ, List.setIfInBounds_toArray, List.set_cons_zero, List.set_cons_succ]
  refine tkH (i := 14) (v := ?_) (fun V hV => ?_) ?_
  rotate_left
  · go_simp
    try with_reducible rfl
  try simp only [Act.put, List.getElem_toArray, List.getElem_cons_zero, List.getElem_cons_succ, List.setIfInBounds_toArray, List.set_cons_zero, List.set_cons_succ]
  refine tkH (i := 15) (v := ?_) (fun V hV => ?_) ?_
  rotate_left
  · go_simp
    try with_reducible rfl
  try simp only [Act.put, List.getElem_toArray, List.getElem_cons_zero, List.getElem_cons_succ, List.setIfInBounds_toArray, List.set_cons_zero, List.set_cons_succ]
  refine tkH (i := 16) (v := ?_) (fun V hV => ?_) ?_
  rotate_left
  · have e0 := hV.cell 0 (v := .slice lp ln lc) rfl; have e1 := hV.cell 1 (v := .int .i64 p.reserve) rfl; have e2 := hV.cell 2 (v := .slice tp tn tc) rfl; have e3 := hV.cell 3 (v := .slice rp rn rc) rfl; go_simp
    try with_reducible rfl
  try simp only [Act.put, List.getElem_toArray, List.getElem_cons_zero, List.getElem_cons_succ, List.setIfInBounds_toArray, List.set_cons_zero, List.set_cons_succ]
  refine tkH (i := 17) (v := ?_) (fun V hV => ?_) ?_
  rotate_left
  · go_simp
    try with_reducible rfl
  try simp only [Act.put, List.getElem_toArray, List.getElem_cons_zero, List.getElem_cons_succ, List.setIfInBounds_toArray, List.set_cons_zero, List.set_cons_succ]
  refine tkH (i := 20) (v := ?_) (fun V hV => ?_) ?_
  rotate_left
  · go_simp
    try with_reducible rfl
  try simp only [Act.put, List.getElem_toArray, List.getElem_cons_zero, List.getElem_cons_succ, List.setIfInBounds_toArray, List.set_cons_zero, List.set_cons_succ]
  refine tkH (i := 21) (v := ?_) (fun V hV => ?_) ?_
  rotate_left
  · have e1 := hV.cell 1 (v := .int .i64 p.reserve) rfl; go_simp
    try with_reducible rfl
  try simp only [Act.put, List.getElem_toArray, List.getElem_cons_zero, List.getElem_cons_succ, List.setIfInBounds_toArray, List.set_cons_zero, List.set_cons_succ]
  refine wpAnyH_ready (rs := [18]) (by kernel_rfl) (by simp) ?_
  refine AllReadyH.cons (o := _) rfl (fun K hK => ?_) AllReadyH.nil
  go_simp
  (with_reducible refine (HK.out _ hS.below HSS.out HOK.out).mono ?_)
  rintro e v18 ⟨rfl, hb⟩
  refine hK.out _ _ (hS.step hb) (fun hS => ?_)
  clear hK K
  try simp only [List.setIfInBounds_toArray, List.set_cons_zero, List.set_cons_succ]
  refine tkH (i := 19) (v := ?_) (fun V hV => ?_) ?_
  rotate_left
  · have q1 := field51 (keptX p l).lo (keptX p l).hi V; go_simp
    try with_reducible rfl
  try simp only [Act.put, List.getElem_toArray, List.getElem_cons_zero, List.getElem_cons_succ, List.setIfInBounds_toArray, List.set_cons_zero, List.set_cons_succ]
  refine tkH (i := 22) (v := ?_) (fun V hV => ?_) ?_
  rotate_left
  · go_simp
    try with_reducible rfl
  try simp only [Act.put, List.getElem_toArray, List.getElem_cons_zero, List.getElem_cons_succ, List.setIfInBounds_toArray, List.set_cons_zero, List.set_cons_succ]
  refine tkH (i := 23) (v := ?_) (fun V hV => ?_) ?_
  rotate_left
  · go_simp
    try with_reducible rfl
  try simp only [Act.put, List.getElem_toArray, List.getElem_cons_zero, List.getElem_cons_succ, List.setIfInBounds_toArray, List.set_cons_zero, List.set_cons_succ]
  refine tkH (i := 24) (v := ?_) (fun V hV => ?_) ?_
  rotate_left
  · go_simp
    try with_reducible rfl
  try simp only [Act.put, List.getElem_toArray, List.getElem_cons_zero, List.getElem_cons_succ, List.setIfInBounds_toArray, List.set_cons_zero, List.set_cons_succ]
  refine wpAnyH_done (by kernel_rfl) ?_ _
  go_wp2_with fail
  go_ret
  exact ⟨ret_bool HRES.out.symm, hS.below⟩
theorem prove_any (p : Prg) (lp : Option Addr) (ln lc : Nat) (tp : Option Addr) (tn tc : Nat) (rp : Option Addr) (rn rc : Nat) (q : Option Addr) (m c : Nat) (l : List Int) (pr : Int) (w : World) (hp : PrgAt w p lp ln tp tn rp rn) (hl : IntsAt w q m l) (hm : m ≤ 100000) : Calls Try.prog 36 #[.agg #[.slice lp ln lc, .int .i64 p.reserve, .slice tp tn tc, .slice rp rn rc], .slice q m c, .int .i64 pr] w fun e w' => e = .returned (.bool (proveB p l pr)) ∧ Below w.heap.size w w' := by
  by_cases h0 : faultP p = 0
  · cases hs : setB p.ts l
    · exact prove36_1 p lp ln lc tp tn tc rp rn rc q m c l pr w hp hl hm h0 hs
    · by_cases hpr : priceL p.ts l ≤ pr
      · exact prove36_3 p lp ln lc tp tn tc rp rn rc q m c l pr w hp hl hm h0 hs hpr
      · exact prove36_2 p lp ln lc tp tn tc rp rn rc q m c l pr w hp hl hm h0 hs hpr
  · exact prove36_0 p lp ln lc tp tn tc rp rn rc q m c l pr w hp hl hm h0
end Go.Proofs.Ytaioobhblfnlaaa
