/- Walks over package hailstoneref03, part I: Bounds, Hits. -/
import Derived.Test.YtlicijnaacdceaaRefH
import Derived.Test.YtlicijnaacdceaaRefG
namespace Go.Proofs.Ytlicijnaacdceaa
open Go.RowKit

/-- Block b has two cells that can be written. -/
def Two (W : World) (b : Nat) (x y : Value) : Prop :=
  b < W.heap.size ∧ W.cell? ⟨b, 0, none⟩ = some x ∧ W.cell? ⟨b, 1, none⟩ = some y ∧ W.frozen? ⟨b, 0, none⟩ = false ∧ W.frozen? ⟨b, 1, none⟩ = false

theorem Two.below {W W' : World} {b : Nat} {x y : Value} (h : Two W b x y) (hb : Below W.heap.size W W') : Two W' b x y := by
  obtain ⟨h1, h2, h3, h4, h5⟩ := h
  exact ⟨Nat.lt_of_lt_of_le h1 hb.size, (hb.cell (p := ⟨b, 0, none⟩) h1).trans h2, (hb.cell (p := ⟨b, 1, none⟩) h1).trans h3, (hb.frozen (p := ⟨b, 0, none⟩) h1).trans h4, (hb.frozen (p := ⟨b, 1, none⟩) h1).trans h5⟩

theorem Two.new (w : World) (x y : Value) (T : TypeId) : Two (w.alloc (.cells #[x, y] T)) w.heap.size x y := by
  refine ⟨by simp, cell_box _ _ _ 0 _ rfl, cell_box _ _ _ 1 _ rfl, ?_, ?_⟩ <;>
  · have := heap_alloc_new w (.cells #[x, y] T)
    simp only [World.frozen?]
    rw [this]
    simp

theorem Two.set {W : World} {b : Nat} {x y : Value} (h : Two W b x y) (x' y' : Value) : Two ((W.setCell ⟨b, 0, none⟩ x').setCell ⟨b, 1, none⟩ y') b x' y' := by
  obtain ⟨h1, h2, h3, h4, h5⟩ := h
  have e1 : (W.setCell ⟨b, 0, none⟩ x').cell? ⟨b, 0, none⟩ = some x' := World.cell?_setCell_same' _ _ _ (by rw [h2]; rfl)
  have e2 : (W.setCell ⟨b, 0, none⟩ x').cell? ⟨b, 1, none⟩ = some y := (World.cell?_setCell_other _ _ _ _ (by simp)).trans h3
  refine ⟨by simp [World.setCell]; exact h1, (World.cell?_setCell_other _ _ _ _ (by simp)).trans e1, World.cell?_setCell_same' _ _ _ (by rw [e2]; rfl), ?_, ?_⟩
  · rw [World.frozen?_setCell, World.frozen?_setCell]; exact h4
  · rw [World.frozen?_setCell, World.frozen?_setCell]; exact h5

/-- What stays in the loops of Bounds and Hits: the survey in its box, the place of the result behind it, the range behind that. -/
def KP (B : Nat) (w : World) (cs : Array Value) (T : TypeId) (a b : Int) (W : World) : Prop :=
  Boxed1 w cs T W ∧ Two W (B + 1) (.int .i64 0) (.int .i64 0) ∧ Two W (B + 2) (.int .i64 a) (.int .i64 b)

theorem KP.step {B : Nat} {w : World} {cs : Array Value} {T : TypeId} {a b : Int} {W W' : World} (h : KP B w cs T a b W) (hb : Below W.heap.size W W') : KP B w cs T a b W' :=
  ⟨h.1.step hb, h.2.1.below hb, h.2.2.below hb⟩

theorem KP.start (w : World) (cs : Array Value) (T : TypeId) (a b : Int) : KP w.heap.size w cs T a b (((w.alloc (.cells cs T)).alloc (.cells #[.int .i64 0, .int .i64 0] 45)).alloc (.cells #[.int .i64 a, .int .i64 b] 45)) := by
  have h1 := Two.new (w.alloc (.cells cs T)) (.int .i64 0) (.int .i64 0) 45
  have h2 := h1.below ((Below.refl _ _).alloc (Nat.le_refl _) (.cells #[.int .i64 a, .int .i64 b] 45))
  have h3 := Two.new ((w.alloc (.cells cs T)).alloc (.cells #[.int .i64 0, .int .i64 0] 45)) (.int .i64 a) (.int .i64 b) 45
  simp only [World.size_alloc] at h2 h3
  exact ⟨((Boxed1.start _ _ _).alloc _).alloc _, h2, h3⟩

/-- The least and the greatest of what is left. -/
def spanG (f : Int → Int) : List Int → Int → Int → Int × Int
  | [], a, b => (a, b)
  | x :: l, a, b => spanG f l (if f x < a then f x else a) (if b < f x then f x else b)
def spanL (f : Int → Int) (l : List Int) : Int × Int := spanG f l 1099511627776 (-1)

theorem Boxed1.store {w : World} {cs : Array Value} {T : TypeId} {W : World} (h : Boxed1 w cs T W) {p q : Addr} (hp : w.heap.size + 1 ≤ p.block) (hq : w.heap.size + 1 ≤ q.block) {x y : Value} : Boxed1 w cs T ((W.setCell p x).setCell q y) :=
  Below.setCell (Below.setCell h hp _) hq _
theorem Two.other {W : World} {b : Nat} {x y : Value} (h : Two W b x y) {p q : Addr} (hp : b ≠ p.block) (hq : b ≠ q.block) {x' y' : Value} : Two ((W.setCell p x').setCell q y') b x y := by
  obtain ⟨h1, h2, h3, h4, h5⟩ := h
  refine ⟨by simp [World.setCell]; exact h1, ?_, ?_, by rw [World.frozen?_setCell, World.frozen?_setCell]; exact h4, by rw [World.frozen?_setCell, World.frozen?_setCell]; exact h5⟩
  · rw [World.cell?_setCell_other _ _ _ _ (by intro e; exact hq (by rw [e])), World.cell?_setCell_other _ _ _ _ (by intro e; exact hp (by rw [e]))]; exact h2
  · rw [World.cell?_setCell_other _ _ _ _ (by intro e; exact hq (by rw [e])), World.cell?_setCell_other _ _ _ _ (by intro e; exact hp (by rw [e]))]; exact h3

theorem KP.box {B : Nat} {w : World} {cs : Array Value} {T : TypeId} {a b : Int} {W : World} (h : KP B w cs T a b W) : Boxed1 w cs T W := h.1

theorem kp_of {w W : World} {r cc : Int} {p : Option Addr} {n c : Nat} {sm : Int} {q : Option Addr} {m d : Nat} {T : TypeId} {a b : Int} {pa : Addr} {v : Value}
    (h : KP w.heap.size w #[.int .i64 r, .int .i64 cc, .slice p n c, .int .i64 sm, .slice q m d] T a b W) (hc : W.cell? pa = some v) :
    W.cell? ⟨w.heap.size, 0, none⟩ = some (.int .i64 r) ∧ W.cell? ⟨w.heap.size, 1, none⟩ = some (.int .i64 cc) ∧ W.cell? ⟨w.heap.size, 2, none⟩ = some (.slice p n c) ∧ W.cell? pa = some v ∧
    KP w.heap.size w #[.int .i64 r, .int .i64 cc, .slice p n c, .int .i64 sm, .slice q m d] T a b W :=
  ⟨h.1.cell 0 rfl, h.1.cell 1 rfl, h.1.cell 2 rfl, hc, h⟩
theorem kp_of' {w W : World} {r cc : Int} {p : Option Addr} {n c : Nat} {sm : Int} {q : Option Addr} {m d : Nat} {T : TypeId} {a b : Int} {pa : Addr} {v : Value}
    (h : KP w.heap.size w #[.int .i64 r, .int .i64 cc, .slice p n c, .int .i64 sm, .slice q m d] T a b W) (hc : W.cell? pa = some v) :
    W.drew.cell? ⟨w.heap.size, 0, none⟩ = some (.int .i64 r) ∧ W.drew.cell? ⟨w.heap.size, 1, none⟩ = some (.int .i64 cc) ∧ W.drew.cell? ⟨w.heap.size, 2, none⟩ = some (.slice p n c) ∧ W.drew.cell? pa = some v ∧
    KP w.heap.size w #[.int .i64 r, .int .i64 cc, .slice p n c, .int .i64 sm, .slice q m d] T a b W.drew :=
  ⟨h.1.cell 0 rfl, h.1.cell 1 rfl, h.1.cell 2 rfl, hc, h.step (Below.drew (Below.refl _ _))⟩

set_option maxHeartbeats 4000000 in
set_option maxRecDepth 20000 in
theorem bounds_any (r cc : Int) (p : Option Addr) (n c : Nat) (l : List Int) (sm : Int) (q : Option Addr) (m d : Nat) (cs : List Cnt) (t : Option Addr) (z zc : Nat) (all : List Int) (w : World) (hl : IntsAt w p n l) (hz : IntsAt w t z all) (hz' : z ≤ 4000) (hok : OkS r cc l sm cs) (hall : ∀ x ∈ all, 0 ≤ x ∧ x ≤ 4000) :
    Calls Try.prog 28 #[.agg #[.int .i64 r, .int .i64 cc, .slice p n c, .int .i64 sm, .slice q m d], .slice t z zc] w fun e w' => e = .returned (.agg #[.int .i64 (spanL (fun i => shareL l (nthG l i)) all).1, .int .i64 (spanL (fun i => shareL l (nthG l i)) all).2]) ∧ Below w.heap.size w w' := by
  obtain ⟨f1, f2, f3, f4, f5, f6, f7, f8⟩ := field_facts hok.field
  have hn : n ≤ 9 := by rw [hl.1]; exact f7
  have hnl := hl.1
  have HN := hid (fun W (x : Int) (h0 : 0 ≤ x) (h1 : x ≤ 4000) (hW : Below w.heap.size w W) => (nth_any r cc p n c l x W (hl.below hW) (by omega) f8 h0 (by omega)).mono fun e w' h => RetInts.at (n := n) (by rw [nth_len, hl.1]) h)
  have HS := hid (fun W (x : Int) t th (hW : Below w.heap.size w W) (hh : IntsAt W t n (nthG l x)) => share_any r cc p n c l t th (nthG l x) W (hl.below hW) hh (by omega) f8 (nth_bd l x f8))
  have HZ := hid hz
  have HALL := hid hall
  clear hl hz hok f1 f2 f3 f4 f5 f6 f7 f8 hall hnl
  go_enter Try.func28, Try.ntmps28
  go_wp2
  go_loopw [6] (fun i wr => ∃ (k : Nat) (a b : Int), k ≤ z ∧ i = .int .i64 k ∧ spanG (fun i => shareL l (nthG l i)) (all.drop k) a b = spanL (fun i => shareL l (nthG l i)) all ∧ KP w.heap.size w #[.int .i64 r, .int .i64 cc, .slice p n c, .int .i64 sm, .slice q m d] 27 a b wr) (fun i _ => z - (intOf i).toNat)
  case atStart => exact ⟨0, _, _, by omega, rfl, rfl, KP.start _ _ _ _ _⟩
  case round =>
    obtain ⟨k, a, b, hk, rfl, hr, HK⟩ := hrel
    have HR := hid hr
    clear hr
    by_cases hlt : k < z
    · obtain ⟨b1, o1, rfl, hb1, hc1⟩ := HZ.out.at hlt
      obtain ⟨x, hx⟩ : ∃ x, all[k]?.getD 0 = x := ⟨_, rfl⟩
      obtain ⟨hx0, hx4⟩ := HALL.out _ (getD_mem (l := all) (k := k) (by have := HZ.out.1; omega))
      have HD := hid (drop_at all k (by have := HZ.out.1; omega))
      rw [hx] at HD hx0 hx4 hc1
      have hcw := (HK.1.below.cell (p := ⟨b1, o1 + k, none⟩) hb1).trans hc1
      have HC1 := hid hc1
      clear hx hc1
      go_wp2_with fail
      go_region_held3 (fun W => W.cell? ⟨w.heap.size, 0, none⟩ = some (.int .i64 r) ∧ W.cell? ⟨w.heap.size, 1, none⟩ = some (.int .i64 cc) ∧ W.cell? ⟨w.heap.size, 2, none⟩ = some (.slice p n c) ∧ W.cell? ⟨b1, o1 + k, none⟩ = some (.int .i64 x) ∧ KP w.heap.size w #[.int .i64 r, .int .i64 cc, .slice p n c, .int .i64 sm, .slice q m d] 27 a b W)
        (first | exact kp_of ‹_› ‹_› | exact kp_of' ‹_› ‹_›)
        (first | (go_at_call 38; go_split_ands; refine (HN.out _ x hx0 hx4 ?_).mono ?_; exact Boxed1.below (KP.box ‹_›); rintro e w2 ⟨p', c', rfl, hi, hb2⟩; have HK2 := KP.step (by assumption) hb2; have hcw2 := (HK2.1.below.cell (p := ⟨b1, o1 + k, none⟩) hb1).trans HC1.out) | (go_at_call 40; go_split_ands; refine (HS.out _ x _ _ ?_ ?_).mono ?_; exact Boxed1.below (KP.box ‹_›); assumption; rintro e w3 ⟨rfl, hb3⟩; have HK3 := KP.step (by assumption) hb3; have hcw3 := (HK3.1.below.cell (p := ⟨b1, o1 + k, none⟩) hb1).trans HC1.out))
      all_goals
        have HG : spanG (fun i => shareL l (nthG l i)) (all.drop (k + 1)) (if shareL l (nthG l x) < a then shareL l (nthG l x) else a) (if b < shareL l (nthG l x) then shareL l (nthG l x) else b) = spanL (fun i => shareL l (nthG l i)) all := by
          rw [← HR.out, HD.out]; rfl
        generalize shareL l (nthG l x) = v at *
        have HG1 := hid HG
        clear HG
        obtain ⟨HB3, HT3, HU3⟩ := HK3
        have hs3 := HU3
        obtain ⟨hsz, z0, z1, h0, h1⟩ := hs3
        have HT4 := hid HT3
        have HU4 := hid HU3
        have HB4 := hid HB3
        clear HT3 HU3 HB3
        by_cases c1 : v < a
        · by_cases c2 : b < v
          · simp only [c1, c2, if_true] at HG1
            go_wp2
            go_roundw
            case rel => exact ⟨k + 1, _, _, by omega, by go_num, HG1.out, HB4.out.store (by simp) (by simp), HT4.out.other (by simp) (by simp), HU4.out.set _ _⟩
            case measure => simp [intOf]; omega
          · simp only [c1, c2, if_true, if_false] at HG1
            go_wp2
            go_roundw
            case rel => exact ⟨k + 1, _, _, by omega, by go_num, HG1.out, HB4.out.store (by simp) (by simp), HT4.out.other (by simp) (by simp), HU4.out.set _ _⟩
            case measure => simp [intOf]; omega
        · by_cases c2 : b < v
          · simp only [c1, c2, if_true, if_false] at HG1
            go_wp2
            go_roundw
            case rel => exact ⟨k + 1, _, _, by omega, by go_num, HG1.out, HB4.out.store (by simp) (by simp), HT4.out.other (by simp) (by simp), HU4.out.set _ _⟩
            case measure => simp [intOf]; omega
          · simp only [c1, c2, if_false] at HG1
            go_wp2
            go_roundw
            case rel => exact ⟨k + 1, _, _, by omega, by go_num, HG1.out, HB4.out.store (by simp) (by simp), HT4.out.other (by simp) (by simp), HU4.out.set _ _⟩
            case measure => simp [intOf]; omega
    · have HG : Hid ((a, b) = spanL (fun i => shareL l (nthG l i)) all) := by show _ = _; rw [← HR.out, List.drop_of_length_le (by have := HZ.out.1; omega)]; rfl
      obtain ⟨HB3, HT3, HU3⟩ := HK
      have HT4 := hid HT3
      have HU4 := hid HU3
      obtain ⟨hsz, z0, z1, h0, h1⟩ := HU3
      obtain ⟨hsz', y0, y1, g0, g1⟩ := HT3
      go_wp2
      have ha : (spanL (fun i => shareL l (nthG l i)) all).1 = a := by rw [← HG.out]
      have hb : (spanL (fun i => shareL l (nthG l i)) all).2 = b := by rw [← HG.out]
      rw [ha, hb]
      obtain ⟨_, q0, q1, _, _⟩ := HT4.out.set (.int .i64 a) (.int .i64 b)
      exact bodyPost_ret (v := .agg #[.int .i64 a, .int .i64 b]) (by simp [results, Try.results28, go_sem, q0, q1]) rfl ⟨rfl, (HB3.below.setCell (by simp) _).setCell (by simp) _⟩

set_option maxHeartbeats 4000000 in
set_option maxRecDepth 20000 in
theorem hits_any (r cc : Int) (p : Option Addr) (n c : Nat) (l : List Int) (sm : Int) (q : Option Addr) (m d : Nat) (cs : List Cnt) (t : Option Addr) (z zc : Nat) (all : List Int) (pl : Nat) (w : World) (hl : IntsAt w p n l) (hz : IntsAt w t z all) (hz' : z ≤ 4000) (hok : OkS r cc l sm cs) (hall : ∀ x ∈ all, 0 ≤ x ∧ x ≤ 4000) (hpl : pl < n) :
    Calls Try.prog 45 #[.agg #[.int .i64 r, .int .i64 cc, .slice p n c, .int .i64 sm, .slice q m d], .slice t z zc, .int .i64 pl] w fun e w' => e = .returned (.agg #[.int .i64 (spanL (fun i => (nthG l i)[pl]?.getD 0) all).1, .int .i64 (spanL (fun i => (nthG l i)[pl]?.getD 0) all).2]) ∧ Below w.heap.size w w' := by
  obtain ⟨f1, f2, f3, f4, f5, f6, f7, f8⟩ := field_facts hok.field
  have hn : n ≤ 9 := by rw [hl.1]; exact f7
  have hnl := hl.1
  have HN := hid (fun W (x : Int) (h0 : 0 ≤ x) (h1 : x ≤ 4000) (hW : Below w.heap.size w W) => (nth_any r cc p n c l x W (hl.below hW) (by omega) f8 h0 (by omega)).mono fun e w' h => RetInts.at (n := n) (by rw [nth_len, hl.1]) h)
  have HZ := hid hz
  have HALL := hid hall
  clear hl hz hok f1 f2 f3 f4 f5 f6 f7 f8 hall hnl
  go_enter Try.func45, Try.ntmps45
  go_wp2
  go_loopw [8] (fun i wr => ∃ (k : Nat) (a b : Int), k ≤ z ∧ i = .int .i64 k ∧ spanG (fun i => (nthG l i)[pl]?.getD 0) (all.drop k) a b = spanL (fun i => (nthG l i)[pl]?.getD 0) all ∧ KP w.heap.size w #[.int .i64 r, .int .i64 cc, .slice p n c, .int .i64 sm, .slice q m d] 27 a b wr) (fun i _ => z - (intOf i).toNat)
  case atStart => exact ⟨0, _, _, by omega, rfl, rfl, KP.start _ _ _ _ _⟩
  case round =>
    obtain ⟨k, a, b, hk, rfl, hr, HK⟩ := hrel
    have HR := hid hr
    clear hr
    by_cases hlt : k < z
    · obtain ⟨b1, o1, rfl, hb1, hc1⟩ := HZ.out.at hlt
      obtain ⟨x, hx⟩ : ∃ x, all[k]?.getD 0 = x := ⟨_, rfl⟩
      obtain ⟨hx0, hx4⟩ := HALL.out _ (getD_mem (l := all) (k := k) (by have := HZ.out.1; omega))
      have HD := hid (drop_at all k (by have := HZ.out.1; omega))
      rw [hx] at HD hx0 hx4 hc1
      have hcw := (HK.1.below.cell (p := ⟨b1, o1 + k, none⟩) hb1).trans hc1
      have HC1 := hid hc1
      clear hx hc1
      go_wp2_with fail
      have hs0 := HK.1.cell 0 (v := .int .i64 r) rfl
      have hs1 := HK.1.cell 1 (v := .int .i64 cc) rfl
      have hs2 := HK.1.cell 2 (v := .slice p n c) rfl
      go_region_with ((go_at_call 38; refine (HN.out _ x hx0 hx4 ?_).mono ?_; exact (HK.1.drew).below; rintro e w3 ⟨p', c', rfl, hi, hb2⟩; have HK3 := (KP.step HK (Below.drew (Below.refl _ _))).step hb2; obtain ⟨b9, o9, rfl, hb9, hc9⟩ := hi.at hpl))
      all_goals
        have HG : spanG (fun i => (nthG l i)[pl]?.getD 0) (all.drop (k + 1)) (if (nthG l x)[pl]?.getD 0 < a then (nthG l x)[pl]?.getD 0 else a) (if b < (nthG l x)[pl]?.getD 0 then (nthG l x)[pl]?.getD 0 else b) = spanL (fun i => (nthG l i)[pl]?.getD 0) all := by
          rw [← HR.out, HD.out]; rfl
        generalize (nthG l x)[pl]?.getD 0 = v at *
        have HG1 := hid HG
        clear HG
        obtain ⟨HB3, HT3, HU3⟩ := HK3
        have hs3 := HU3
        obtain ⟨hsz, z0, z1, h0, h1⟩ := hs3
        have HT4 := hid HT3
        have HU4 := hid HU3
        have HB4 := hid HB3
        clear HT3 HU3 HB3
        by_cases c1 : v < a
        · by_cases c2 : b < v
          · simp only [c1, c2, if_true] at HG1
            go_wp2
            go_roundw
            case rel => exact ⟨k + 1, _, _, by omega, by go_num, HG1.out, HB4.out.store (by simp) (by simp), HT4.out.other (by simp) (by simp), HU4.out.set _ _⟩
            case measure => simp [intOf]; omega
          · simp only [c1, c2, if_true, if_false] at HG1
            go_wp2
            go_roundw
            case rel => exact ⟨k + 1, _, _, by omega, by go_num, HG1.out, HB4.out.store (by simp) (by simp), HT4.out.other (by simp) (by simp), HU4.out.set _ _⟩
            case measure => simp [intOf]; omega
        · by_cases c2 : b < v
          · simp only [c1, c2, if_true, if_false] at HG1
            go_wp2
            go_roundw
            case rel => exact ⟨k + 1, _, _, by omega, by go_num, HG1.out, HB4.out.store (by simp) (by simp), HT4.out.other (by simp) (by simp), HU4.out.set _ _⟩
            case measure => simp [intOf]; omega
          · simp only [c1, c2, if_false] at HG1
            go_wp2
            go_roundw
            case rel => exact ⟨k + 1, _, _, by omega, by go_num, HG1.out, HB4.out.store (by simp) (by simp), HT4.out.other (by simp) (by simp), HU4.out.set _ _⟩
            case measure => simp [intOf]; omega
    · have HG : Hid ((a, b) = spanL (fun i => (nthG l i)[pl]?.getD 0) all) := by show _ = _; rw [← HR.out, List.drop_of_length_le (by have := HZ.out.1; omega)]; rfl
      obtain ⟨HB3, HT3, HU3⟩ := HK
      have HT4 := hid HT3
      have HU4 := hid HU3
      obtain ⟨hsz, z0, z1, h0, h1⟩ := HU3
      obtain ⟨hsz', y0, y1, g0, g1⟩ := HT3
      go_wp2
      have ha : (spanL (fun i => (nthG l i)[pl]?.getD 0) all).1 = a := by rw [← HG.out]
      have hb : (spanL (fun i => (nthG l i)[pl]?.getD 0) all).2 = b := by rw [← HG.out]
      rw [ha, hb]
      obtain ⟨_, q0, q1, _, _⟩ := HT4.out.set (.int .i64 a) (.int .i64 b)
      exact bodyPost_ret (v := .agg #[.int .i64 a, .int .i64 b]) (by simp [results, Try.results45, go_sem, q0, q1]) rfl ⟨rfl, (HB3.below.setCell (by simp) _).setCell (by simp) _⟩
end Go.Proofs.Ytlicijnaacdceaa
