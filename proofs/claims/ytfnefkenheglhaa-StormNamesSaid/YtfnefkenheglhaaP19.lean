/- Package storm: the smallest set, and the smallest clash. No condition. -/
import Derived.Test.YtfnefkenheglhaaP18
import Derived.WalkMore
namespace Go.Proofs.Ytfnefkenheglhaa
open Go.RowKit

def shortL (f : List Int → Bool) (n : Nat) : Option (List Int) := (List.range (n + 1)).findSome? fun m => (combos n m 0).find? f
theorem short_at {f : List Int → Bool} {n m : Nat} {X : List Int} (hm : m ≤ n) (h : (combos n m 0).find? f = some X) (hno : ∀ j, j < m → (combos n j 0).find? f = none) : shortL f n = some X := by
  unfold shortL
  have e : List.range (n + 1) = List.range m ++ (m :: List.range' (m + 1) (n - m)) := by
    rw [List.range_eq_range', List.range_eq_range', show n + 1 = m + (n - m + 1) by omega, ← List.range'_append_1]
    simp [List.range'_succ]
  rw [e, List.findSome?_append]
  have h1 : (List.range m).findSome? (fun m => (combos n m 0).find? f) = none := by
    rw [List.findSome?_eq_none_iff]
    intro j hj
    exact hno j (List.mem_range.1 hj)
  rw [h1]
  simp [h]
theorem short_none {f : List Int → Bool} {n : Nat} (hno : ∀ j, j < n + 1 → (combos n j 0).find? f = none) : shortL f n = none := by
  unfold shortL
  rw [List.findSome?_eq_none_iff]
  intro j hj
  exact hno j (List.mem_range.1 hj)
def ShortPost (f : List Int → Bool) (n bm : Nat) (w : World) : Ending → World → Prop := fun e w' =>
  ∃ q k d, e = .returned (.tuple #[.slice q k d, .bool (shortL f n).isSome]) ∧ (∀ X, shortL f n = some X → IntsAt w' q k X) ∧ Near (fun k => k = bm) w w'
theorem cost_le : ∀ {m : Nat}, m ≤ 6 → cost m ≤ 235298000
  | 0, _ => by decide
  | 1, _ => by decide
  | 2, _ => by decide
  | 3, _ => by decide
  | 4, _ => by decide
  | 5, _ => by decide
  | 6, _ => by decide
def leaveF (s : Sto) (X : List Int) : Bool := togetherB s fun i => !hasB X i
def clashF (s : Sto) (X : List Int) : Bool := !togetherB s fun i => hasB X i
theorem carry84 (s : Sto) (p : Option Addr) (n c bk bm cf : Nat) (w : World) (hcs : CrdsAt w p n s.cards) (hpb : ∀ a, p = some a → 0 < n → a.block ≠ bm) (ok : OkS s) (hb : bk < w.heap.size) (hm : bm < w.heap.size) (hbm : bk ≠ bm) (hcf : w.heap.size ≤ cf) :
    Carry (fun nn W => WK s p n c bk bm nn w W) (leaveF s) 1000000000000 84 bk bm cf p n c := by
  refine ⟨?_, ?_, ?_, ?_, ?_⟩
  · exact fun nn W1 W2 h hn => h.near hn (fun k hk => by omega) hb hm
  · exact fun nn nn' W h hn => h.more hn
  · exact fun nn W h => h.2.1.sto.c11
  · exact fun nn W h => Nat.lt_of_lt_of_le hm h.1.size
  · intro nn X q k d W h hnn hq hk
    have hcw : CrdsAt W p n s.cards := hcs.kept h.1.size (fun a ha hn0 hlt => h.1.block _ hlt (hpb a ha hn0))
    have hsz := h.1.size
    refine (without_any s p n c bk bm nn q k d X W hq.1 (fun a ha _ => (hq.2 a ha).2) (by omega) ⟨Near.refl _ _, h.2⟩ hcw hpb ok (by omega) (by omega) hbm (by unfold maxLen; omega)).mono fun e w' hp => ?_
    exact ⟨hp.1, hp.2.1, h.1.trans hp.2.1, hp.2.2⟩
theorem carry86 (s : Sto) (p : Option Addr) (n c bk bm cf : Nat) (w : World) (hcs : CrdsAt w p n s.cards) (hpb : ∀ a, p = some a → 0 < n → a.block ≠ bm) (ok : OkS s) (hb : bk < w.heap.size) (hm : bm < w.heap.size) (hbm : bk ≠ bm) (hcf : w.heap.size ≤ cf) :
    Carry (fun nn W => WK s p n c bk bm nn w W) (clashF s) 1000000000000 86 bk bm cf p n c := by
  refine ⟨?_, ?_, ?_, ?_, ?_⟩
  · exact fun nn W1 W2 h hn => h.near hn (fun k hk => by omega) hb hm
  · exact fun nn nn' W h hn => h.more hn
  · exact fun nn W h => h.2.1.sto.c11
  · exact fun nn W h => Nat.lt_of_lt_of_le hm h.1.size
  · intro nn X q k d W h hnn hq hk
    have hcw : CrdsAt W p n s.cards := hcs.kept h.1.size (fun a ha hn0 hlt => h.1.block _ hlt (hpb a ha hn0))
    have hsz := h.1.size
    refine (clash_any s p n c bk bm nn q k d X W hq.1 (fun a ha _ => (hq.2 a ha).2) (by omega) ⟨Near.refl _ _, h.2⟩ hcw hpb ok (by omega) (by omega) hbm (by unfold maxLen; omega)).mono fun e w' hp => ?_
    exact ⟨hp.1, hp.2.1, h.1.trans hp.2.1, hp.2.2⟩

set_option maxRecDepth 40000 in
set_option maxHeartbeats 8000000 in
theorem short84_any (s : Sto) (p : Option Addr) (n c bk bm : Nat) (w : World) (hw0 : WK s p n c bk bm 0 w w) (hcs : CrdsAt w p n s.cards) (hpb : ∀ a, p = some a → 0 < n → a.block ≠ bm) (ok : OkS s) (hb : bk < w.heap.size) (hm : bm < w.heap.size) (hbm : bk ≠ bm) :
    Calls Try.prog 85 #[.agg #[.func (.func 84) #[] #[]], .pointer (some ⟨bk, 0, none⟩)] w (ShortPost (leaveF s) n bm w) := by
  have hmf : ∀ (fn : Fn) (first cap : Array Value) (w : World), (Instr.makeFunc fn first cap).run Try.prog w = .ok (.func fn first cap) w := fun _ _ _ _ => rfl
  have hn6 : n ≤ 6 := by have := ok.n6; have := hcs.1; omega
  have HCA := hid (carry84 s p n c bk bm (w.heap.size + 1 + 1) w hcs hpb ok hb hm hbm (by omega))
  have HADD := hid (add84_any _ _ _ bk bm (w.heap.size + 1 + 1) w.heap.size (w.heap.size + 1) (w.heap.size + 1 + 1 + 1) p n c HCA.out hn6 (by omega) ⟨by omega, by omega⟩ ⟨by omega, by omega⟩ ⟨by omega, by omega⟩)
  obtain ⟨W0, hW0⟩ : ∃ V, ((((w.alloc (.cells #[.func (.func 84) #[] #[]] 140)).alloc (.cells #[.pointer (some ⟨bk, 0, none⟩)] 120)).alloc (.cells #[.slice none 0 0] 51)).alloc (.cells #[.func (.func 120) #[] #[.pointer (some ⟨w.heap.size + 1 + 1, 0, none⟩), .pointer (some ⟨w.heap.size, 0, none⟩), .pointer (some ⟨w.heap.size + 1, 0, none⟩), .pointer (some ⟨w.heap.size + 1 + 1 + 1, 0, none⟩)]] 169)) = V := ⟨_, rfl⟩
  have hb0 : Below w.heap.size w W0 := by rw [← hW0]; exact ((((Below.refl _ _).alloc (Nat.le_refl _) _).alloc (by simp) _).alloc (by simp only [World.size_alloc]; omega) _).alloc (by simp only [World.size_alloc]; omega) _
  have hc0 : W0.cell? ⟨w.heap.size, 0, none⟩ = some (.func (.func 84) #[] #[]) := by
    have h := cell_box w #[.func (.func 84) #[] #[]] 140 0 _ rfl
    have hb : Below (w.heap.size + 1) (w.alloc (.cells #[.func (.func 84) #[] #[]] 140)) W0 := by rw [← hW0]; exact (((Below.refl _ _).alloc (by simp) _).alloc (by simp) _).alloc (by simp only [World.size_alloc]; omega) _
    exact (hb.cell (p := ⟨w.heap.size, 0, none⟩) (by simp)).trans h
  have hc1 : W0.cell? ⟨w.heap.size + 1, 0, none⟩ = some (.pointer (some ⟨bk, 0, none⟩)) := by
    have h := cell_box (w.alloc (.cells #[.func (.func 84) #[] #[]] 140)) #[.pointer (some ⟨bk, 0, none⟩)] 120 0 _ rfl
    rw [World.size_alloc] at h
    have hb : Below (w.heap.size + 2) ((w.alloc (.cells #[.func (.func 84) #[] #[]] 140)).alloc (.cells #[.pointer (some ⟨bk, 0, none⟩)] 120)) W0 := by rw [← hW0]; exact ((Below.refl _ _).alloc (by simp) _).alloc (by simp) _
    exact (hb.cell (p := ⟨w.heap.size + 1, 0, none⟩) (by simp)).trans h
  have hx2 : BoxIs (w.heap.size + 1 + 1) #[.slice none 0 0] W0 := by
    have h := (BoxIs.start ((w.alloc (.cells #[.func (.func 84) #[] #[]] 140)).alloc (.cells #[.pointer (some ⟨bk, 0, none⟩)] 120)) #[.slice none 0 0] 51).below ((Below.refl _ _).alloc (Nat.le_refl _) (.cells #[.func (.func 120) #[] #[.pointer (some ⟨w.heap.size + 1 + 1, 0, none⟩), .pointer (some ⟨w.heap.size, 0, none⟩), .pointer (some ⟨w.heap.size + 1, 0, none⟩), .pointer (some ⟨w.heap.size + 1 + 1 + 1, 0, none⟩)]] 169))
    rw [World.size_alloc, World.size_alloc, hW0] at h; exact h
  have hc3 : W0.cell? ⟨w.heap.size + 1 + 1 + 1, 0, none⟩ = some (.func (.func 120) #[] #[.pointer (some ⟨w.heap.size + 1 + 1, 0, none⟩), .pointer (some ⟨w.heap.size, 0, none⟩), .pointer (some ⟨w.heap.size + 1, 0, none⟩), .pointer (some ⟨w.heap.size + 1 + 1 + 1, 0, none⟩)]) := by
    have h := cell_box (((w.alloc (.cells #[.func (.func 84) #[] #[]] 140)).alloc (.cells #[.pointer (some ⟨bk, 0, none⟩)] 120)).alloc (.cells #[.slice none 0 0] 51)) #[.func (.func 120) #[] #[.pointer (some ⟨w.heap.size + 1 + 1, 0, none⟩), .pointer (some ⟨w.heap.size, 0, none⟩), .pointer (some ⟨w.heap.size + 1, 0, none⟩), .pointer (some ⟨w.heap.size + 1 + 1 + 1, 0, none⟩)]] 169 0 _ rfl
    rw [World.size_alloc, World.size_alloc, World.size_alloc, hW0] at h; exact h
  have HL0 : Hid (LCell W0 84 bk (w.heap.size + 1 + 1) w.heap.size (w.heap.size + 1) (w.heap.size + 1 + 1 + 1)) := hid ⟨hc0, hc1, hc3⟩
  have HF0 : Hid (Free W0 (w.heap.size + 1 + 1)) := hid ⟨_, _, _, (hx2.2 0 (.slice none 0 0) rfl).1, (hx2.2 0 (.slice none 0 0) rfl).2⟩
  have HW0 : Hid (WK s p n c bk bm 0 w W0) := hid (hw0.near (Near.of_below hb0 (S := fun k => w.heap.size ≤ k) (fun i _ h => h)) (fun k hk => hk) hb hm)
  have w0c := HL0.out.cw; have w1c := HL0.out.ca; have w2c := HW0.out.2.1.sto.c11
  clear hc0 hc1 hc3 hx2 hcs hpb ok hw0 hb0
  go_enter Try.func85, Try.ntmps85
  go_wp2
  refine wp_scope_straight ?_
  go_wp2
  go_step3
  go_wp2
  clear hW0 w0c w1c w2c hmf
  go_loopw [5, 16] (fun b i wr => ∃ m : Nat, m ≤ n + 1 ∧ i = .int .i64 m ∧ b = .bool false ∧ Near (fun k => k = w.heap.size + 1 + 1 ∨ k = bm) W0 wr ∧ Free wr (w.heap.size + 1 + 1) ∧ WK s p n c bk bm (m * 235298000) w wr ∧ ∀ j, j < m → (combos n j 0).find? (leaveF s) = none) (fun _ i _ => n + 1 - (intOf i).toNat)
  case atStart => exact ⟨0, by omega, rfl, rfl, Near.refl _ _, HF0.out, by rw [Nat.zero_mul]; exact HW0.out, fun j hj => by omega⟩
  case round =>
    obtain ⟨m, hm7, rfl, rfl, hnr, hfr, hwr, hno⟩ := hrel
    have HNR := hid hnr; have HFR := hid hfr; have HWR := hid hwr; have HNO := hid hno
    have HLR := hid (HL0.out.near hnr (by omega) (by omega) (by omega))
    have ca := HLR.out.ca
    clear hnr hfr hwr hno
    by_cases hlt : m < n + 1
    · have hmn : m ≤ n := by omega
      have HAD := hid (HADD.out m 0 [] none 0 0 (m * 235298000) wr HWR.out HFR.out HLR.out ⟨⟨rfl, fun i hi => by omega⟩, fun a ha => by cases ha⟩ (by omega) (Nat.le_refl _) (by simp; omega) (by have := cost_le (show m ≤ 6 by omega); omega))
      have HCO := hid (cost_le (show m ≤ 6 by omega))
      obtain ⟨res, hres⟩ : ∃ res, (combos n m 0).find? (leaveF s) = res := ⟨_, rfl⟩
      simp only [List.nil_append, List.map_id'] at HAD
      rw [hres] at HAD
      have HRES := hid hres
      clear hres
      go_wp2_with fail
      refine HAD.out.mono ?_
      rintro e w2 ⟨rfl, hn2, hf2, hi2, hx2⟩
      have HN2 := hid (HNR.out.trans hn2); have HF2 := hid hf2; have HX2 := hid hx2
      have HI2 := hid (hi2.more (show m * 235298000 + cost m ≤ (m + 1) * 235298000 by have := HCO.out; omega))
      clear hn2 hf2 hi2 hx2 ca
      cases res with
      | none =>
        go_wp2_with fail
        go_roundw
        case rel => exact ⟨m + 1, by omega, by go_num, rfl, HN2.out, HF2.out, HI2.out, fun j hj => by
          by_cases e : j < m
          · exact HNO.out j e
          · have : j = m := by omega
            subst this; exact HRES.out⟩
        case measure => simp [intOf]; omega
      | some X =>
        have HSH := hid (short_at hmn HRES.out HNO.out)
        obtain ⟨q, k, d, hq1, hq2⟩ := HX2.out X rfl
        obtain ⟨_, _, _, _, hf3⟩ := HF2.out
        have HQ1 := hid hq1; have HQ2 := hid hq2; have HF3 := hid hf3
        clear hq2
        go_wp2_with fail
        have hlt2 := World.block_lt_of_cell? _ _ HQ1.out
        have hx9 : (w2.setCell ⟨w.heap.size + 1 + 1, 0, none⟩ (.slice q k d)).cell? ⟨w.heap.size + 1 + 1, 0, none⟩ = some (.slice q k d) := World.cell?_setCell_same' _ _ _ (by rw [HQ1.out]; rfl)
        have hn9 : Near (fun k => k = w.heap.size + 1 + 1) w2 (w2.setCell ⟨w.heap.size + 1 + 1, 0, none⟩ (.slice q k d)) := (Near.refl (fun k => k = w.heap.size + 1 + 1) w2).setCell (p := ⟨w.heap.size + 1 + 1, 0, none⟩) (fun _ => rfl) _
        refine bodyPost_ret (v := .tuple #[.slice q k d, .bool true]) (by simp [results, Try.f85, go_sem, hx9]) rfl ?_
        exact ⟨q, k, d, by rw [HSH.out]; rfl, fun Y hY => by
          rw [HSH.out] at hY; cases hY
          exact HQ2.out.1.kept (fun a ha _ hlt => hn9.block _ hlt (HQ2.out.2 a ha).1), (HI2.out.near hn9 (fun k hk => by omega) hb hm).1⟩
    · have hmn : m = n + 1 := by omega
      subst hmn
      have HSH := hid (short_none HNO.out)
      obtain ⟨q, k, d, hq1, hf3⟩ := HFR.out
      have HQ1 := hid hq1; have HF3 := hid hf3
      go_wp2_with fail
      have hx9 : (wr.setCell ⟨w.heap.size + 1 + 1, 0, none⟩ (.slice q k d)).cell? ⟨w.heap.size + 1 + 1, 0, none⟩ = some (.slice q k d) := World.cell?_setCell_same' _ _ _ (by rw [HQ1.out]; rfl)
      have hn9 : Near (fun k => k = w.heap.size + 1 + 1) wr (wr.setCell ⟨w.heap.size + 1 + 1, 0, none⟩ (.slice q k d)) := (Near.refl (fun k => k = w.heap.size + 1 + 1) wr).setCell (p := ⟨w.heap.size + 1 + 1, 0, none⟩) (fun _ => rfl) _
      refine bodyPost_ret (v := .tuple #[.slice q k d, .bool false]) (by simp [results, Try.f85, go_sem, hx9]) rfl ?_
      exact ⟨q, k, d, by rw [HSH.out]; rfl, fun Y hY => (by rw [HSH.out] at hY; cases hY), (HWR.out.near hn9 (fun k hk => by omega) hb hm).1⟩

set_option maxRecDepth 40000 in
set_option maxHeartbeats 8000000 in
theorem short86_any (s : Sto) (p : Option Addr) (n c bk bm : Nat) (w : World) (hw0 : WK s p n c bk bm 0 w w) (hcs : CrdsAt w p n s.cards) (hpb : ∀ a, p = some a → 0 < n → a.block ≠ bm) (ok : OkS s) (hb : bk < w.heap.size) (hm : bm < w.heap.size) (hbm : bk ≠ bm) :
    Calls Try.prog 85 #[.agg #[.func (.func 86) #[] #[]], .pointer (some ⟨bk, 0, none⟩)] w (ShortPost (clashF s) n bm w) := by
  have hmf : ∀ (fn : Fn) (first cap : Array Value) (w : World), (Instr.makeFunc fn first cap).run Try.prog w = .ok (.func fn first cap) w := fun _ _ _ _ => rfl
  have hn6 : n ≤ 6 := by have := ok.n6; have := hcs.1; omega
  have HCA := hid (carry86 s p n c bk bm (w.heap.size + 1 + 1) w hcs hpb ok hb hm hbm (by omega))
  have HADD := hid (add86_any _ _ _ bk bm (w.heap.size + 1 + 1) w.heap.size (w.heap.size + 1) (w.heap.size + 1 + 1 + 1) p n c HCA.out hn6 (by omega) ⟨by omega, by omega⟩ ⟨by omega, by omega⟩ ⟨by omega, by omega⟩)
  obtain ⟨W0, hW0⟩ : ∃ V, ((((w.alloc (.cells #[.func (.func 86) #[] #[]] 140)).alloc (.cells #[.pointer (some ⟨bk, 0, none⟩)] 120)).alloc (.cells #[.slice none 0 0] 51)).alloc (.cells #[.func (.func 120) #[] #[.pointer (some ⟨w.heap.size + 1 + 1, 0, none⟩), .pointer (some ⟨w.heap.size, 0, none⟩), .pointer (some ⟨w.heap.size + 1, 0, none⟩), .pointer (some ⟨w.heap.size + 1 + 1 + 1, 0, none⟩)]] 169)) = V := ⟨_, rfl⟩
  have hb0 : Below w.heap.size w W0 := by rw [← hW0]; exact ((((Below.refl _ _).alloc (Nat.le_refl _) _).alloc (by simp) _).alloc (by simp only [World.size_alloc]; omega) _).alloc (by simp only [World.size_alloc]; omega) _
  have hc0 : W0.cell? ⟨w.heap.size, 0, none⟩ = some (.func (.func 86) #[] #[]) := by
    have h := cell_box w #[.func (.func 86) #[] #[]] 140 0 _ rfl
    have hb : Below (w.heap.size + 1) (w.alloc (.cells #[.func (.func 86) #[] #[]] 140)) W0 := by rw [← hW0]; exact (((Below.refl _ _).alloc (by simp) _).alloc (by simp) _).alloc (by simp only [World.size_alloc]; omega) _
    exact (hb.cell (p := ⟨w.heap.size, 0, none⟩) (by simp)).trans h
  have hc1 : W0.cell? ⟨w.heap.size + 1, 0, none⟩ = some (.pointer (some ⟨bk, 0, none⟩)) := by
    have h := cell_box (w.alloc (.cells #[.func (.func 86) #[] #[]] 140)) #[.pointer (some ⟨bk, 0, none⟩)] 120 0 _ rfl
    rw [World.size_alloc] at h
    have hb : Below (w.heap.size + 2) ((w.alloc (.cells #[.func (.func 86) #[] #[]] 140)).alloc (.cells #[.pointer (some ⟨bk, 0, none⟩)] 120)) W0 := by rw [← hW0]; exact ((Below.refl _ _).alloc (by simp) _).alloc (by simp) _
    exact (hb.cell (p := ⟨w.heap.size + 1, 0, none⟩) (by simp)).trans h
  have hx2 : BoxIs (w.heap.size + 1 + 1) #[.slice none 0 0] W0 := by
    have h := (BoxIs.start ((w.alloc (.cells #[.func (.func 86) #[] #[]] 140)).alloc (.cells #[.pointer (some ⟨bk, 0, none⟩)] 120)) #[.slice none 0 0] 51).below ((Below.refl _ _).alloc (Nat.le_refl _) (.cells #[.func (.func 120) #[] #[.pointer (some ⟨w.heap.size + 1 + 1, 0, none⟩), .pointer (some ⟨w.heap.size, 0, none⟩), .pointer (some ⟨w.heap.size + 1, 0, none⟩), .pointer (some ⟨w.heap.size + 1 + 1 + 1, 0, none⟩)]] 169))
    rw [World.size_alloc, World.size_alloc, hW0] at h; exact h
  have hc3 : W0.cell? ⟨w.heap.size + 1 + 1 + 1, 0, none⟩ = some (.func (.func 120) #[] #[.pointer (some ⟨w.heap.size + 1 + 1, 0, none⟩), .pointer (some ⟨w.heap.size, 0, none⟩), .pointer (some ⟨w.heap.size + 1, 0, none⟩), .pointer (some ⟨w.heap.size + 1 + 1 + 1, 0, none⟩)]) := by
    have h := cell_box (((w.alloc (.cells #[.func (.func 86) #[] #[]] 140)).alloc (.cells #[.pointer (some ⟨bk, 0, none⟩)] 120)).alloc (.cells #[.slice none 0 0] 51)) #[.func (.func 120) #[] #[.pointer (some ⟨w.heap.size + 1 + 1, 0, none⟩), .pointer (some ⟨w.heap.size, 0, none⟩), .pointer (some ⟨w.heap.size + 1, 0, none⟩), .pointer (some ⟨w.heap.size + 1 + 1 + 1, 0, none⟩)]] 169 0 _ rfl
    rw [World.size_alloc, World.size_alloc, World.size_alloc, hW0] at h; exact h
  have HL0 : Hid (LCell W0 86 bk (w.heap.size + 1 + 1) w.heap.size (w.heap.size + 1) (w.heap.size + 1 + 1 + 1)) := hid ⟨hc0, hc1, hc3⟩
  have HF0 : Hid (Free W0 (w.heap.size + 1 + 1)) := hid ⟨_, _, _, (hx2.2 0 (.slice none 0 0) rfl).1, (hx2.2 0 (.slice none 0 0) rfl).2⟩
  have HW0 : Hid (WK s p n c bk bm 0 w W0) := hid (hw0.near (Near.of_below hb0 (S := fun k => w.heap.size ≤ k) (fun i _ h => h)) (fun k hk => hk) hb hm)
  have w0c := HL0.out.cw; have w1c := HL0.out.ca; have w2c := HW0.out.2.1.sto.c11
  clear hc0 hc1 hc3 hx2 hcs hpb ok hw0 hb0
  go_enter Try.func85, Try.ntmps85
  go_wp2
  refine wp_scope_straight ?_
  go_wp2
  go_step3
  go_wp2
  clear hW0 w0c w1c w2c hmf
  go_loopw [5, 16] (fun b i wr => ∃ m : Nat, m ≤ n + 1 ∧ i = .int .i64 m ∧ b = .bool false ∧ Near (fun k => k = w.heap.size + 1 + 1 ∨ k = bm) W0 wr ∧ Free wr (w.heap.size + 1 + 1) ∧ WK s p n c bk bm (m * 235298000) w wr ∧ ∀ j, j < m → (combos n j 0).find? (clashF s) = none) (fun _ i _ => n + 1 - (intOf i).toNat)
  case atStart => exact ⟨0, by omega, rfl, rfl, Near.refl _ _, HF0.out, by rw [Nat.zero_mul]; exact HW0.out, fun j hj => by omega⟩
  case round =>
    obtain ⟨m, hm7, rfl, rfl, hnr, hfr, hwr, hno⟩ := hrel
    have HNR := hid hnr; have HFR := hid hfr; have HWR := hid hwr; have HNO := hid hno
    have HLR := hid (HL0.out.near hnr (by omega) (by omega) (by omega))
    have ca := HLR.out.ca
    clear hnr hfr hwr hno
    by_cases hlt : m < n + 1
    · have hmn : m ≤ n := by omega
      have HAD := hid (HADD.out m 0 [] none 0 0 (m * 235298000) wr HWR.out HFR.out HLR.out ⟨⟨rfl, fun i hi => by omega⟩, fun a ha => by cases ha⟩ (by omega) (Nat.le_refl _) (by simp; omega) (by have := cost_le (show m ≤ 6 by omega); omega))
      have HCO := hid (cost_le (show m ≤ 6 by omega))
      obtain ⟨res, hres⟩ : ∃ res, (combos n m 0).find? (clashF s) = res := ⟨_, rfl⟩
      simp only [List.nil_append, List.map_id'] at HAD
      rw [hres] at HAD
      have HRES := hid hres
      clear hres
      go_wp2_with fail
      refine HAD.out.mono ?_
      rintro e w2 ⟨rfl, hn2, hf2, hi2, hx2⟩
      have HN2 := hid (HNR.out.trans hn2); have HF2 := hid hf2; have HX2 := hid hx2
      have HI2 := hid (hi2.more (show m * 235298000 + cost m ≤ (m + 1) * 235298000 by have := HCO.out; omega))
      clear hn2 hf2 hi2 hx2 ca
      cases res with
      | none =>
        go_wp2_with fail
        go_roundw
        case rel => exact ⟨m + 1, by omega, by go_num, rfl, HN2.out, HF2.out, HI2.out, fun j hj => by
          by_cases e : j < m
          · exact HNO.out j e
          · have : j = m := by omega
            subst this; exact HRES.out⟩
        case measure => simp [intOf]; omega
      | some X =>
        have HSH := hid (short_at hmn HRES.out HNO.out)
        obtain ⟨q, k, d, hq1, hq2⟩ := HX2.out X rfl
        obtain ⟨_, _, _, _, hf3⟩ := HF2.out
        have HQ1 := hid hq1; have HQ2 := hid hq2; have HF3 := hid hf3
        clear hq2
        go_wp2_with fail
        have hlt2 := World.block_lt_of_cell? _ _ HQ1.out
        have hx9 : (w2.setCell ⟨w.heap.size + 1 + 1, 0, none⟩ (.slice q k d)).cell? ⟨w.heap.size + 1 + 1, 0, none⟩ = some (.slice q k d) := World.cell?_setCell_same' _ _ _ (by rw [HQ1.out]; rfl)
        have hn9 : Near (fun k => k = w.heap.size + 1 + 1) w2 (w2.setCell ⟨w.heap.size + 1 + 1, 0, none⟩ (.slice q k d)) := (Near.refl (fun k => k = w.heap.size + 1 + 1) w2).setCell (p := ⟨w.heap.size + 1 + 1, 0, none⟩) (fun _ => rfl) _
        refine bodyPost_ret (v := .tuple #[.slice q k d, .bool true]) (by simp [results, Try.f85, go_sem, hx9]) rfl ?_
        exact ⟨q, k, d, by rw [HSH.out]; rfl, fun Y hY => by
          rw [HSH.out] at hY; cases hY
          exact HQ2.out.1.kept (fun a ha _ hlt => hn9.block _ hlt (HQ2.out.2 a ha).1), (HI2.out.near hn9 (fun k hk => by omega) hb hm).1⟩
    · have hmn : m = n + 1 := by omega
      subst hmn
      have HSH := hid (short_none HNO.out)
      obtain ⟨q, k, d, hq1, hf3⟩ := HFR.out
      have HQ1 := hid hq1; have HF3 := hid hf3
      go_wp2_with fail
      have hx9 : (wr.setCell ⟨w.heap.size + 1 + 1, 0, none⟩ (.slice q k d)).cell? ⟨w.heap.size + 1 + 1, 0, none⟩ = some (.slice q k d) := World.cell?_setCell_same' _ _ _ (by rw [HQ1.out]; rfl)
      have hn9 : Near (fun k => k = w.heap.size + 1 + 1) wr (wr.setCell ⟨w.heap.size + 1 + 1, 0, none⟩ (.slice q k d)) := (Near.refl (fun k => k = w.heap.size + 1 + 1) wr).setCell (p := ⟨w.heap.size + 1 + 1, 0, none⟩) (fun _ => rfl) _
      refine bodyPost_ret (v := .tuple #[.slice q k d, .bool false]) (by simp [results, Try.f85, go_sem, hx9]) rfl ?_
      exact ⟨q, k, d, by rw [HSH.out]; rfl, fun Y hY => (by rw [HSH.out] at hY; cases hY), (HWR.out.near hn9 (fun k hk => by omega) hb hm).1⟩

def leaveV (s : Sto) : List Int := (shortL (leaveF s) s.cards.length).getD []
/-- The smallest set; the smallest clash, if there is one. -/
def LeavePost (s : Sto) (w : World) : Ending → World → Prop := fun e w' =>
  ∃ q k d, e = .returned (.tuple #[.slice q k d, .int .i64 (faultS s)]) ∧ (faultS s ≠ 0 → q = none ∧ k = 0 ∧ d = 0) ∧ (faultS s = 0 → ∀ X, shortL (leaveF s) s.cards.length = some X → IntsAt w' q k X) ∧ Below w.heap.size w w'
def clashE (s : Sto) : Int := if faultS s = 0 then (if (shortL (clashF s) s.cards.length).isSome = true then 0 else 7) else faultS s
def ClashPost (s : Sto) (w : World) : Ending → World → Prop := fun e w' =>
  ∃ q k d, e = .returned (.tuple #[.slice q k d, .int .i64 (clashE s)]) ∧ (clashE s ≠ 0 → q = none ∧ k = 0 ∧ d = 0) ∧ (faultS s = 0 → ∀ X, shortL (clashF s) s.cards.length = some X → IntsAt w' q k X) ∧ Below w.heap.size w w'

set_option maxRecDepth 40000 in
set_option maxHeartbeats 8000000 in
theorem leave_any (s : Sto) (p : Option Addr) (n c : Nat) (w : World) (hcs : CrdsAt w p n s.cards) :
    Calls Try.prog 29 #[.agg #[.int .i64 s.wide, .int .i64 s.high, .int .i64 s.fall, .int .i64 s.a.lo, .int .i64 s.a.hi, .int .i64 s.b.lo, .int .i64 s.b.hi, .int .i64 s.half.lo, .int .i64 s.half.hi, .int .i64 s.peak.lo, .int .i64 s.peak.hi, .slice p n c]] w (LeavePost s w) := by
  have HC := hid hcs
  have HCK := hid (fun W (hb : Below w.heap.size w W) => checkStorm_any s p n c W (hcs.below hb))
  have HL := hid hcs.1
  clear hcs
  have H0 : Hid (Boxed1 w #[.int .i64 s.wide, .int .i64 s.high, .int .i64 s.fall, .int .i64 s.a.lo, .int .i64 s.a.hi, .int .i64 s.b.lo, .int .i64 s.b.hi, .int .i64 s.half.lo, .int .i64 s.half.hi, .int .i64 s.peak.lo, .int .i64 s.peak.hi, .slice p n c] 35 (w.alloc (.cells #[.int .i64 s.wide, .int .i64 s.high, .int .i64 s.fall, .int .i64 s.a.lo, .int .i64 s.a.hi, .int .i64 s.b.lo, .int .i64 s.b.hi, .int .i64 s.half.lo, .int .i64 s.half.hi, .int .i64 s.peak.lo, .int .i64 s.peak.hi, .slice p n c] 35))) := Boxed1.start _ _ _
  go_enter Try.func29, Try.ntmps29
  go_wp2_with fail
  refine (HCK.out _ H0.out.below).mono ?_
  rintro e w1 ⟨rfl, hb⟩
  have H1 := hid (H0.out.step hb)
  clear hb
  by_cases h0 : faultS s = 0
  · have HOK := hid (fault_iff.1 h0)
    have HF0 := hid h0
    rw [h0]
    clear h0
    have e0 := (StoAt.of H1.out.cell).c0; have e1 := (StoAt.of H1.out.cell).c1; have e2 := (StoAt.of H1.out.cell).c2; have e3 := (StoAt.of H1.out.cell).c3; have e4 := (StoAt.of H1.out.cell).c4; have e5 := (StoAt.of H1.out.cell).c5; have e6 := (StoAt.of H1.out.cell).c6; have e7 := (StoAt.of H1.out.cell).c7; have e8 := (StoAt.of H1.out.cell).c8; have e9 := (StoAt.of H1.out.cell).c9; have e10 := (StoAt.of H1.out.cell).c10; have e11 := (StoAt.of H1.out.cell).c11
    go_wp2_with fail
    refine (work_any s p n c _).mono ?_
    rintro e w2 ⟨rfl, hwk, hmp, hz3, hb⟩
    have H2 := hid (H1.out.step hb)
    have hz1 := H1.out.size
    have hWK : WK s p n c (w1.heap.size + 2) (w1.heap.size + 1) 0 w2 w2 := ⟨Near.refl _ _, hwk, _, hmp, knows_nil s⟩
    have HPB : Hid (∀ a, p = some a → 0 < n → a.block ≠ w1.heap.size + 1) := fun a ha hn => by
      obtain ⟨_, _, b1, o1, e1, hlt, _⟩ := HC.out.at hn
      rw [ha] at e1; cases e1
      show b1 ≠ _
      omega
    have HSH := hid (short84_any s p n c (w1.heap.size + 2) (w1.heap.size + 1) w2 hWK (HC.out.below H2.out.below) HPB.out HOK.out (by omega) (by omega) (by omega))
    have HBM : Hid (w.heap.size ≤ w1.heap.size + 1) := hid (by omega)
    clear hwk hmp hz3 hz1 hb hWK e0 e1 e2 e3 e4 e5 e6 e7 e8 e9 e10 e11
    go_wp2_with fail
    refine HSH.out.mono ?_
    rintro e w3 ⟨q, k, d, rfl, hx, hn3⟩
    rw [HL.out] at hx ⊢
    have HX := hid hx
    have HB3 : Hid (Below w.heap.size w w3) := hid (H2.out.below.trans (hn3.below H2.out.below.size (fun k h1 h2 => by have := HBM.out; omega)))
    clear hx hn3
    go_wp2_with fail
    go_ret2
    exact ⟨q, k, d, by rw [HF0.out]; rfl, fun h => absurd HF0.out h, fun _ => HX.out, HB3.out⟩
  · have hE' : (faultS s != 0) = true := by simp [h0]
    have HN := hid h0
    clear h0
    go_wp2_with fail
    go_ret2
    exact ⟨none, 0, 0, rfl, fun _ => ⟨rfl, rfl, rfl⟩, fun h => absurd h HN.out, H1.out.below⟩

set_option maxRecDepth 40000 in
set_option maxHeartbeats 8000000 in
theorem clashP_any (s : Sto) (p : Option Addr) (n c : Nat) (w : World) (hcs : CrdsAt w p n s.cards) :
    Calls Try.prog 30 #[.agg #[.int .i64 s.wide, .int .i64 s.high, .int .i64 s.fall, .int .i64 s.a.lo, .int .i64 s.a.hi, .int .i64 s.b.lo, .int .i64 s.b.hi, .int .i64 s.half.lo, .int .i64 s.half.hi, .int .i64 s.peak.lo, .int .i64 s.peak.hi, .slice p n c]] w (ClashPost s w) := by
  have HC := hid hcs
  have HCK := hid (fun W (hb : Below w.heap.size w W) => checkStorm_any s p n c W (hcs.below hb))
  have HL := hid hcs.1
  clear hcs
  have H0 : Hid (Boxed1 w #[.int .i64 s.wide, .int .i64 s.high, .int .i64 s.fall, .int .i64 s.a.lo, .int .i64 s.a.hi, .int .i64 s.b.lo, .int .i64 s.b.hi, .int .i64 s.half.lo, .int .i64 s.half.hi, .int .i64 s.peak.lo, .int .i64 s.peak.hi, .slice p n c] 35 (w.alloc (.cells #[.int .i64 s.wide, .int .i64 s.high, .int .i64 s.fall, .int .i64 s.a.lo, .int .i64 s.a.hi, .int .i64 s.b.lo, .int .i64 s.b.hi, .int .i64 s.half.lo, .int .i64 s.half.hi, .int .i64 s.peak.lo, .int .i64 s.peak.hi, .slice p n c] 35))) := Boxed1.start _ _ _
  go_enter Try.func30, Try.ntmps30
  go_wp2_with fail
  refine (HCK.out _ H0.out.below).mono ?_
  rintro e w1 ⟨rfl, hb⟩
  have H1 := hid (H0.out.step hb)
  clear hb
  by_cases h0 : faultS s = 0
  · have HOK := hid (fault_iff.1 h0)
    have HF0 := hid h0
    rw [h0]
    clear h0
    have e0 := (StoAt.of H1.out.cell).c0; have e1 := (StoAt.of H1.out.cell).c1; have e2 := (StoAt.of H1.out.cell).c2; have e3 := (StoAt.of H1.out.cell).c3; have e4 := (StoAt.of H1.out.cell).c4; have e5 := (StoAt.of H1.out.cell).c5; have e6 := (StoAt.of H1.out.cell).c6; have e7 := (StoAt.of H1.out.cell).c7; have e8 := (StoAt.of H1.out.cell).c8; have e9 := (StoAt.of H1.out.cell).c9; have e10 := (StoAt.of H1.out.cell).c10; have e11 := (StoAt.of H1.out.cell).c11
    go_wp2_with fail
    refine (work_any s p n c _).mono ?_
    rintro e w2 ⟨rfl, hwk, hmp, hz3, hb⟩
    have H2 := hid (H1.out.step hb)
    have hz1 := H1.out.size
    have hWK : WK s p n c (w1.heap.size + 2) (w1.heap.size + 1) 0 w2 w2 := ⟨Near.refl _ _, hwk, _, hmp, knows_nil s⟩
    have HPB : Hid (∀ a, p = some a → 0 < n → a.block ≠ w1.heap.size + 1) := fun a ha hn => by
      obtain ⟨_, _, b1, o1, e1, hlt, _⟩ := HC.out.at hn
      rw [ha] at e1; cases e1
      show b1 ≠ _
      omega
    have HSH := hid (short86_any s p n c (w1.heap.size + 2) (w1.heap.size + 1) w2 hWK (HC.out.below H2.out.below) HPB.out HOK.out (by omega) (by omega) (by omega))
    have HBM : Hid (w.heap.size ≤ w1.heap.size + 1) := hid (by omega)
    clear hwk hmp hz3 hz1 hb hWK e0 e1 e2 e3 e4 e5 e6 e7 e8 e9 e10 e11
    go_wp2_with fail
    refine HSH.out.mono ?_
    rintro e w3 ⟨q, k, d, rfl, hx, hn3⟩
    rw [HL.out] at hx ⊢
    have HX := hid hx
    have HB3 : Hid (Below w.heap.size w w3) := hid (H2.out.below.trans (hn3.below H2.out.below.size (fun k h1 h2 => by have := HBM.out; omega)))
    clear hx hn3
    cases hsm : (shortL (clashF s) s.cards.length).isSome
    · have HE : Hid (clashE s = 7) := by show _ = _; rw [clashE, if_pos HF0.out, hsm]; rfl
      clear hsm
      go_wp2_with fail
      go_ret2
      exact ⟨none, 0, 0, by rw [HE.out]; rfl, fun _ => ⟨rfl, rfl, rfl⟩, fun _ X hX => by
        have h1 := HE.out
        rw [clashE, if_pos HF0.out, hX] at h1
        simp at h1, HB3.out⟩
    · have HE : Hid (clashE s = 0) := by show _ = _; rw [clashE, if_pos HF0.out, hsm]; rfl
      clear hsm
      go_wp2_with fail
      go_ret2
      exact ⟨q, k, d, by rw [HE.out]; rfl, fun h => absurd HE.out h, fun _ => HX.out, HB3.out⟩
  · have hE' : (faultS s != 0) = true := by simp [h0]
    have HN := hid h0
    clear h0
    go_wp2_with fail
    go_ret2
    exact ⟨none, 0, 0, by rw [show clashE s = faultS s from if_neg HN.out]; rfl, fun _ => ⟨rfl, rfl, rfl⟩, fun h => absurd h HN.out, H1.out.below⟩
end Go.Proofs.Ytfnefkenheglhaa
