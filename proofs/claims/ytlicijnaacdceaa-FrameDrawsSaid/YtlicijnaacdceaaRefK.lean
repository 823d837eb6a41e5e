/- Walks over package hailstoneref03, part K: Decide. -/
import Derived.Test.YtlicijnaacdceaaRefI
namespace Go.Proofs.Ytlicijnaacdceaa
open Go.RowKit

/-- The number of the hits at some places (by bits), from the last place to the first. -/
def keyG (l h : List Int) (places : Int) : Nat → Int → Int
  | 0, x => x
  | k + 1, x => keyG l h places k (if bitB places k = true then x * (l[k]?.getD 0 + 1) + h[k]?.getD 0 else x)
def keyL (l h : List Int) (places : Int) : Int := keyG l h places l.length 0

def prodL : List Int → Int
  | [] => 1
  | a :: r => (a + 1) * prodL r

theorem prodL_pos : ∀ (l : List Int), (∀ x ∈ l, 0 ≤ x ∧ x ≤ 9) → 1 ≤ prodL l
  | [], _ => by simp [prodL]
  | a :: r, h => by
    have h1 := prodL_pos r (fun x hx => h x (by simp [hx]))
    obtain ⟨h2, _⟩ := h a (by simp)
    have : 1 * 1 ≤ (a + 1) * prodL r := Int.mul_le_mul (by omega) h1 (by omega) (by omega)
    simpa [prodL] using this

theorem prodL_drop (l : List Int) (h : ∀ x ∈ l, 0 ≤ x ∧ x ≤ 9) (k : Nat) : prodL (l.drop k) ≤ prodL l := by
  induction k generalizing l with
  | zero => simp
  | succ k ih =>
    cases l with
    | nil => simp [prodL]
    | cons a r =>
      have h1 := ih r (fun x hx => h x (by simp [hx]))
      obtain ⟨h2, _⟩ := h a (by simp)
      have h3 := prodL_pos r (fun x hx => h x (by simp [hx]))
      have : 1 * prodL r ≤ (a + 1) * prodL r := Int.mul_le_mul_of_nonneg_right (by omega) (by omega)
      simp only [List.drop_succ_cons, prodL]
      omega

theorem manyG_top : ∀ (l : List Int), (∀ x ∈ l, 0 ≤ x ∧ x ≤ 9) → manyG l 4000 = 4000
  | [], _ => rfl
  | a :: r, h => by
    obtain ⟨h2, _⟩ := h a (by simp)
    unfold manyG
    rw [if_neg (by omega)]
    exact manyG_top r (fun x hx => h x (by simp [hx]))

theorem manyG_prod : ∀ (l : List Int) (x : Int), (∀ y ∈ l, 0 ≤ y ∧ y ≤ 9) → 1 ≤ x → x ≤ 4000 → manyG l x ≤ 2000 → x * prodL l = manyG l x
  | [], x, _, _, _, _ => by simp [prodL, manyG]
  | a :: r, x, h, h0, h1, h2 => by
    obtain ⟨ha, ha'⟩ := h a (by simp)
    obtain ⟨hb, hb'⟩ := mul_bd h0 h1 ha ha'
    unfold manyG at h2 ⊢
    by_cases c : x * (a + 1) < 4000
    · rw [if_pos c] at h2 ⊢
      rw [← manyG_prod r _ (fun y hy => h y (by simp [hy])) hb (by omega) h2, prodL, Int.mul_assoc]
    · rw [if_neg c, manyG_top r (fun y hy => h y (by simp [hy]))] at h2
      omega

theorem prodL_many {l : List Int} (h : ∀ y ∈ l, 0 ≤ y ∧ y ≤ 9) (hm : manyL l ≤ 2000) : prodL l ≤ 2000 := by
  have := manyG_prod l 1 h (by omega) (by omega) hm
  unfold manyL at hm
  omega

theorem key_step {x a y P : Int} (h0 : 0 ≤ x) (h1 : x < P) (ha : 0 ≤ a) (hy : 0 ≤ y) (hy' : y ≤ a) : 0 ≤ x * (a + 1) ∧ 0 ≤ x * (a + 1) + y ∧ x * (a + 1) + y < (a + 1) * P := by
  have h2 : 0 ≤ x * (a + 1) := Int.mul_nonneg h0 (by omega)
  have h3 : (a + 1) * (x + 1) ≤ (a + 1) * P := Int.mul_le_mul_of_nonneg_left (by omega) (by omega)
  have h4 : (a + 1) * (x + 1) = x * (a + 1) + (a + 1) := by rw [Int.mul_add, Int.mul_comm]; omega
  omega

/-- Block b of W has 4000 bools that can be written. -/
def Marks (W : World) (b : Nat) (f : Nat → Bool) : Prop :=
  b < W.heap.size ∧ ∀ k, k < 4000 → W.cell? ⟨b, k, none⟩ = some (.bool (f k)) ∧ W.frozen? ⟨b, k, none⟩ = false

theorem Marks.below {W W' : World} {b : Nat} {f : Nat → Bool} (h : Marks W b f) (hb : Below W.heap.size W W') : Marks W' b f :=
  ⟨Nat.lt_of_lt_of_le h.1 hb.size, fun k hk => ⟨(hb.cell (p := ⟨b, k, none⟩) h.1).trans (h.2 k hk).1, (hb.frozen (p := ⟨b, k, none⟩) h.1).trans (h.2 k hk).2⟩⟩

def upd (f : Nat → Bool) (k : Nat) : Nat → Bool := fun j => if j = k then true else f j

theorem Marks.set {W : World} {b : Nat} {f : Nat → Bool} (h : Marks W b f) {k : Nat} (hk : k < 4000) : Marks (W.setCell ⟨b, k, none⟩ (.bool true)) b (upd f k) := by
  refine ⟨by simp [World.setCell]; exact h.1, fun j hj => ⟨?_, by rw [World.frozen?_setCell]; exact (h.2 j hj).2⟩⟩
  by_cases e : j = k
  · subst e
    rw [World.cell?_setCell_same' _ _ _ (by rw [(h.2 j hj).1]; rfl), upd, if_pos rfl]
  · rw [World.cell?_setCell_other _ _ _ _ (by first | (simp; done) | (simp; omega) | (simp; exact fun h => e h.symm))]; simp [upd, e, (h.2 j hj).1]

theorem Marks.other {W : World} {b : Nat} {f : Nat → Bool} (h : Marks W b f) {p : Addr} (hp : b ≠ p.block) {v : Value} : Marks (W.setCell p v) b f := by
  refine ⟨by simp [World.setCell]; exact h.1, fun j hj => ⟨?_, by rw [World.frozen?_setCell]; exact (h.2 j hj).2⟩⟩
  rw [World.cell?_setCell_other _ _ _ _ (by intro e; exact hp (by rw [e]))]; exact (h.2 j hj).1

theorem zero127 : Try.zeroCells127 = Array.replicate 4000 (.bool false) := by kernel_rfl

theorem Marks.new (w : World) : Marks (w.alloc (.cells Try.zeroCells127 127)) w.heap.size fun _ => false := by
  refine ⟨by simp, fun k hk => ⟨cell_box _ _ _ k _ (by rw [zero127]; simp [hk]), ?_⟩⟩
  have := heap_alloc_new w (.cells Try.zeroCells127 127)
  simp only [World.frozen?]
  rw [this]
  rfl

/-- What stays in Decide: the survey in its box, the marks behind it. -/
def DK (B : Nat) (w : World) (cs : Array Value) (T : TypeId) (f g : Nat → Bool) (W : World) : Prop :=
  Boxed1 w cs T W ∧ Marks W (B + 1) f ∧ Marks W (B + 2) g

theorem DK.step {B : Nat} {w : World} {cs : Array Value} {T : TypeId} {f g : Nat → Bool} {W W' : World} (h : DK B w cs T f g W) (hb : Below W.heap.size W W') : DK B w cs T f g W' :=
  ⟨h.1.step hb, h.2.1.below hb, h.2.2.below hb⟩
theorem DK.box {B : Nat} {w : World} {cs : Array Value} {T : TypeId} {f g : Nat → Bool} {W : World} (h : DK B w cs T f g W) : Boxed1 w cs T W := h.1

theorem DK.start (w : World) (cs : Array Value) (T : TypeId) : DK w.heap.size w cs T (fun _ => false) (fun _ => false) (((w.alloc (.cells cs T)).alloc (.cells Try.zeroCells127 127)).alloc (.cells Try.zeroCells127 127)) := by
  have h1 := Marks.new (w.alloc (.cells cs T))
  have h2 := h1.below ((Below.refl _ _).alloc (Nat.le_refl _) (.cells Try.zeroCells127 127))
  have h3 := Marks.new ((w.alloc (.cells cs T)).alloc (.cells Try.zeroCells127 127))
  simp only [World.size_alloc] at h2 h3
  exact ⟨((Boxed1.start _ _ _).alloc _).alloc _, h2, h3⟩

theorem dk_of {w W : World} {r cc : Int} {p : Option Addr} {n c : Nat} {sm : Int} {q : Option Addr} {m d : Nat} {T : TypeId} {f g : Nat → Bool} {pa : Addr} {v : Value}
    (h : DK w.heap.size w #[.int .i64 r, .int .i64 cc, .slice p n c, .int .i64 sm, .slice q m d] T f g W) (hc : W.cell? pa = some v) :
    W.cell? ⟨w.heap.size, 0, none⟩ = some (.int .i64 r) ∧ W.cell? ⟨w.heap.size, 1, none⟩ = some (.int .i64 cc) ∧ W.cell? ⟨w.heap.size, 2, none⟩ = some (.slice p n c) ∧ W.cell? pa = some v ∧
    DK w.heap.size w #[.int .i64 r, .int .i64 cc, .slice p n c, .int .i64 sm, .slice q m d] T f g W :=
  ⟨h.1.cell 0 rfl, h.1.cell 1 rfl, h.1.cell 2 rfl, hc, h⟩
theorem dk_of' {w W : World} {r cc : Int} {p : Option Addr} {n c : Nat} {sm : Int} {q : Option Addr} {m d : Nat} {T : TypeId} {f g : Nat → Bool} {pa : Addr} {v : Value}
    (h : DK w.heap.size w #[.int .i64 r, .int .i64 cc, .slice p n c, .int .i64 sm, .slice q m d] T f g W) (hc : W.cell? pa = some v) :
    W.drew.cell? ⟨w.heap.size, 0, none⟩ = some (.int .i64 r) ∧ W.drew.cell? ⟨w.heap.size, 1, none⟩ = some (.int .i64 cc) ∧ W.drew.cell? ⟨w.heap.size, 2, none⟩ = some (.slice p n c) ∧ W.drew.cell? pa = some v ∧
    DK w.heap.size w #[.int .i64 r, .int .i64 cc, .slice p n c, .int .i64 sm, .slice q m d] T f g W.drew :=
  ⟨h.1.cell 0 rfl, h.1.cell 1 rfl, h.1.cell 2 rfl, hc, h.step (Below.drew (Below.refl _ _))⟩

/-- Decide: what is left of all truths, and what was marked. -/
def decideG (l : List Int) (part places : Int) : List Int → (Nat → Bool) → (Nat → Bool) → Bool
  | [], _, _ => true
  | x :: r, f, g =>
    let k := (keyL l (nthG l x) places).toNat
    let f' := if part ≤ shareL l (nthG l x) then upd f k else f
    let g' := if part ≤ shareL l (nthG l x) then g else upd g k
    if (f' k && g' k) = true then false else decideG l part places r f' g'
def decideB (l all : List Int) (part places : Int) : Bool := decideG l part places all (fun _ => false) (fun _ => false)

theorem nth_le : ∀ (l : List Int) (m : Int) (i : Nat), (∀ x ∈ l, 0 ≤ x ∧ x ≤ 9) → i < l.length → 0 ≤ (nthG l m)[i]?.getD 0 ∧ (nthG l m)[i]?.getD 0 ≤ l[i]?.getD 0
  | [], _, i, _, h => by simp at h
  | s :: r, m, 0, hs, _ => by
    obtain ⟨h0, h9⟩ := hs s (by simp)
    have := Int.emod_nonneg m (show s + 1 ≠ 0 by omega)
    have := Int.emod_lt_of_pos m (show 0 < s + 1 by omega)
    simp [nthG]; omega
  | s :: r, m, i + 1, hs, h => by
    have := nth_le r (m / (s + 1)) i (fun y hy => hs y (by simp [hy])) (by simpa using h)
    simpa [nthG] using this

set_option maxHeartbeats 8000000 in
set_option maxRecDepth 20000 in
theorem decide_any (r cc : Int) (p : Option Addr) (n c : Nat) (l : List Int) (sm : Int) (q : Option Addr) (m d : Nat) (cs : List Cnt) (t : Option Addr) (z zc : Nat) (all : List Int) (part places : Int) (w : World) (hl : IntsAt w p n l) (hz : IntsAt w t z all) (hz' : z ≤ 4000) (hok : OkS r cc l sm cs) (hall : ∀ x ∈ all, 0 ≤ x ∧ x ≤ 4000)
    (hp0 : 0 ≤ places) (_hp1 : places < 4096) :
    Calls Try.prog 35 #[.agg #[.int .i64 r, .int .i64 cc, .slice p n c, .int .i64 sm, .slice q m d], .slice t z zc, .int .i64 part, .int .i64 places] w fun e w' => e = .returned (.bool (decideB l all part places)) ∧ Below w.heap.size w w' := by
  obtain ⟨f1, f2, f3, f4, f5, f6, f7, f8⟩ := field_facts hok.field
  have hn : n ≤ 9 := by rw [hl.1]; exact f7
  have hn1 : 1 ≤ n := by rw [hl.1]; exact f6
  have hnl := hl.1
  have HN := hid (fun W (x : Int) (h0 : 0 ≤ x) (h1 : x ≤ 4000) (hW : Below w.heap.size w W) => (nth_any r cc p n c l x W (hl.below hW) (by omega) f8 h0 (by omega)).mono fun e w' h => RetInts.at (n := n) (by rw [nth_len, hl.1]) h)
  have HS := hid (fun W (x : Int) t th (hW : Below w.heap.size w W) (hh : IntsAt W t n (nthG l x)) => share_any r cc p n c l t th (nthG l x) W (hl.below hW) hh (by omega) f8 (nth_bd l x f8))
  have HNL := hid (fun (x : Int) (i : Nat) (hi : i < n) => nth_le l x i f8 (by omega))
  have HLL := hid (fun (i : Nat) (hi : i < n) => f8 _ (getD_mem (l := l) (k := i) (by omega)))
  have HPR := hid (prodL_many f8 hok.many)
  have HPD := hid (prodL_drop l f8)
  have HPS := hid (fun (i : Nat) (hi : i < n) => show prodL (l.drop i) = (l[i]?.getD 0 + 1) * prodL (l.drop (i + 1)) by rw [drop_at l i (by omega)]; rfl)
  have HPE := hid (show prodL (l.drop n) = 1 by rw [List.drop_of_length_le (by omega)]; rfl)
  have HZ := hid hz
  have HL := hid hl
  have HALL := hid hall
  have HNN := hid hnl
  clear hl hz hok f1 f2 f3 f4 f5 f6 f7 f8 hall hnl
  go_enter Try.func35, Try.ntmps35
  go_wp2
  go_loopw [11] (fun i wr => ∃ (k : Nat) (f g : Nat → Bool), k ≤ z ∧ i = .int .i64 k ∧ decideG l part places (all.drop k) f g = decideB l all part places ∧ DK w.heap.size w #[.int .i64 r, .int .i64 cc, .slice p n c, .int .i64 sm, .slice q m d] 27 f g wr) (fun i _ => z - (intOf i).toNat)
  case atStart => exact ⟨0, _, _, by omega, rfl, rfl, DK.start _ _ _⟩
  case round =>
    obtain ⟨k, f, g, hk, rfl, hr, HK⟩ := hrel
    have HR := hid hr
    clear hr
    by_cases hlt : k < z
    · obtain ⟨b1, o1, rfl, hb1, hc1⟩ := HZ.out.at hlt
      obtain ⟨x, hx⟩ : ∃ x, all[k]?.getD 0 = x := ⟨_, rfl⟩
      obtain ⟨hx0, hx4⟩ := HALL.out _ (getD_mem (l := all) (k := k) (by have := HZ.out.1; omega))
      have HD := hid (drop_at all k (by have := HZ.out.1; omega))
      rw [hx] at HD hx0 hx4 hc1
      have hcw := (HK.1.below.cell (p := ⟨b1, o1 + k, none⟩) hb1).trans hc1
      have HC1 := hid hc1
      clear hx hc1
      go_wp2_with fail
      go_region_held3 (fun W => W.cell? ⟨w.heap.size, 0, none⟩ = some (.int .i64 r) ∧ W.cell? ⟨w.heap.size, 1, none⟩ = some (.int .i64 cc) ∧ W.cell? ⟨w.heap.size, 2, none⟩ = some (.slice p n c) ∧ W.cell? ⟨b1, o1 + k, none⟩ = some (.int .i64 x) ∧ DK w.heap.size w #[.int .i64 r, .int .i64 cc, .slice p n c, .int .i64 sm, .slice q m d] 27 f g W)
        (first | exact dk_of ‹_› ‹_› | exact dk_of' ‹_› ‹_›)
        (first | (go_at_call 38; go_split_ands; refine (HN.out _ x hx0 hx4 ?_).mono ?_; exact Boxed1.below (DK.box ‹_›); rintro e w2 ⟨p', c', rfl, hi, hb2⟩; have HK2 := DK.step (by assumption) hb2; have hcw2 := (HK2.1.below.cell (p := ⟨b1, o1 + k, none⟩) hb1).trans HC1.out))
      have HI := hid hi
      have HK3 := hid HK2
      clear hi HK2 HK
      go_wp2_with fail
      go_hide hQ
      obtain ⟨wo, hwo⟩ : ∃ wo : World, wo = w2 := ⟨_, rfl⟩
      go_loopw [13, 14] (fun u v wr => ∃ (j : Nat) (y : Int), j ≤ n ∧ v = .int .i64 ((j : Int) - 1) ∧ u = .int .i64 y ∧ 0 ≤ y ∧ y < prodL (l.drop j) ∧ keyG l (nthG l x) places j y = keyL l (nthG l x) places ∧ ∃ nn, wr = w2.drewN nn) (fun _ v _ => (intOf v + 1).toNat)
      case atStart => exact ⟨n, 0, by omega, rfl, rfl, by omega, by rw [HPE.out]; omega, by rw [keyL, HNN.out], 0, rfl⟩
      case round =>
        obtain ⟨j, y, hj, rfl, rfl, hy0, hy1, hr2, nn, rfl⟩ := hrel
        have HR2 := hid hr2
        clear hr2
        cases j with
        | zero =>
          have hle : prodL (l.drop 0) ≤ 2000 := by simpa using HPR.out
          obtain ⟨kk, rfl⟩ : ∃ kk : Nat, y = kk := ⟨y.toNat, by omega⟩
          have hk4 : kk < 4000 := by omega
          have HKK : Hid ((keyL l (nthG l x) places).toNat = kk) := by show _ = _; rw [← HR2.out, keyG]; simp
          clear hle hy0 hy1
          go_wp2_with fail
          subst hQ
          have HB2 := HK3.out.1.drewN nn
          have hs0 := HB2.cell 0 (v := .int .i64 r) rfl
          have hs1 := HB2.cell 1 (v := .int .i64 cc) rfl
          have hs2 := HB2.cell 2 (v := .slice p n c) rfl
          go_wp2_with fail
          refine (HS.out _ x _ _ HB2.below (HI.out.drewN nn)).mono ?_
          rintro e w4 ⟨rfl, hb4⟩
          have HK4 := (HK3.out.step (below_drewN (Below.refl _ _) nn)).step hb4
          clear hb4 hs0 hs1 hs2
          obtain ⟨hB4, hM1, hM2⟩ := HK4
          have HM1 := hid hM1
          have HM2 := hid hM2
          obtain ⟨m1, m2⟩ := hM1.2 kk hk4
          obtain ⟨m3, m4⟩ := hM2.2 kk hk4
          have hz1 := hM1.1
          have hz2 := hM2.1
          clear hM1 hM2
          have HDec : Hid (decideG l part places (all.drop k) f g = decideG l part places (x :: all.drop (k + 1)) f g) := by show _ = _; rw [HD.out]
          by_cases hpt : part ≤ shareL l (nthG l x)
          · cases hg : g kk
            · have HF : Hid (decideG l part places (all.drop (k + 1)) (upd f kk) g = decideB l all part places) := by
                show _ = _; rw [← HR.out, HDec.out, decideG]; simp only [HKK.out, if_pos hpt, hg, Bool.and_false, Bool.false_eq_true, if_false]
              rw [hg] at m3
              go_wp2
              go_roundw
              case rel => exact ⟨k + 1, _, _, by omega, by go_num, HF.out, Boxed1.step' hB4 (Below.setCell (Below.refl _ _) (by first | (simp; done) | (simp; omega)) _), HM1.out.set hk4, HM2.out.other (by simp)⟩
              case measure => simp [intOf]; omega
            · have HF : Hid (decideB l all part places = false) := by
                show _ = _; rw [← HR.out, HDec.out, decideG]; simp [HKK.out, if_pos hpt, hg, upd]
              rw [hg] at m3
              go_wp2
              go_ret
              exact ⟨ret_bool HF.out.symm, hB4.below.setCell (by first | (simp; done) | (simp; omega)) _⟩
          · cases hf : f kk
            · have HF : Hid (decideG l part places (all.drop (k + 1)) f (upd g kk) = decideB l all part places) := by
                show _ = _; rw [← HR.out, HDec.out, decideG]; simp only [HKK.out, if_neg hpt, hf, Bool.false_and, Bool.false_eq_true, if_false]
              rw [hf] at m1
              go_wp2
              go_roundw
              case rel => exact ⟨k + 1, _, _, by omega, by go_num, HF.out, Boxed1.step' hB4 (Below.setCell (Below.refl _ _) (by first | (simp; done) | (simp; omega)) _), HM1.out.other (by simp), HM2.out.set hk4⟩
              case measure => simp [intOf]; omega
            · have HF : Hid (decideB l all part places = false) := by
                show _ = _; rw [← HR.out, HDec.out, decideG]; simp [HKK.out, if_neg hpt, hf, upd]
              rw [hf] at m1
              go_wp2
              go_ret
              exact ⟨ret_bool HF.out.symm, hB4.below.setCell (by first | (simp; done) | (simp; omega)) _⟩
        | succ j =>
          have ej : ((j + 1 : Nat) : Int) - 1 = (j : Int) := by omega
          rw [ej]
          clear ej
          have hjn : j < n := by omega
          obtain ⟨b2, o2, rfl, hb2', hc2⟩ := (HL.out.below HK3.out.1.below).at hjn
          obtain ⟨b3, o3, rfl, hb3', hc3⟩ := HI.out.at hjn
          obtain ⟨ha0, ha9⟩ := HLL.out j hjn
          obtain ⟨hv0, hv9⟩ := HNL.out x j hjn
          have hPD : prodL (l.drop j) ≤ 2000 := Int.le_trans (HPD.out j) HPR.out
          have hPS := HPS.out j hjn
          obtain ⟨hq0, hq1, hq2⟩ := key_step hy0 hy1 ha0 hv0 hv9
          rw [← hPS] at hq2
          have HQ2 := hid hq2
          have hq3 : y * (l[j]?.getD 0 + 1) ≤ 2000 := by omega
          have hq4 : y * (l[j]?.getD 0 + 1) + (nthG l x)[j]?.getD 0 ≤ 2000 := by omega
          have HY1 := hid hy1
          have HPS1 := hid hPS
          have hPP := HPD.out (j + 1)
          have hPR := HPR.out
          have hy2 : y ≤ 2000 := by omega
          clear hPS hq2 hPD hPP hPR hy1
          have hs2 := HK3.out.1.cell 2 (v := .slice (some ⟨b2, o2, none⟩) n c) rfl
          have W1 := hid (IntWalk.i64_in (l[j]?.getD 0 + 1) (by omega))
          have W2 := hid (IntWalk.i64_in (y * (l[j]?.getD 0 + 1)) (by omega))
          have W3 := hid (IntWalk.i64_in (y * (l[j]?.getD 0 + 1) + (nthG l x)[j]?.getD 0) (by omega))
          have hnn : 0 ≤ places / 2 ^ j := Int.ediv_nonneg hp0 (Int.le_of_lt (Int.pow_pos (by omega)))
          have T1 : (places / 2 ^ j).tmod 2 = places / 2 ^ j % 2 := Int.tmod_eq_emod_of_nonneg hnn
          cases hbit : bitB places j
          · have hbit' : (places / 2 ^ j % 2 == 1) = false := hbit
            have HF : Hid (keyG l (nthG l x) places j y = keyL l (nthG l x) places) := by show _ = _; rw [← HR2.out, keyG, hbit]; simp
            have HY2 : Hid (y < prodL (l.drop j)) := by
              show _ < _
              have h1 : 1 * prodL (l.drop (j + 1)) ≤ (l[j]?.getD 0 + 1) * prodL (l.drop (j + 1)) := Int.mul_le_mul_of_nonneg_right (by omega) (by have := HY1.out; omega)
              rw [HPS1.out]; have := HY1.out; omega
            clear hbit
            go_wp2_with fail
            go_roundw
            case rel => exact ⟨j, y, by omega, rfl, rfl, hy0, HY2.out, HF.out, _, rfl⟩
            case measure => simp [intOf]
          · have hbit' : (places / 2 ^ j % 2 == 1) = true := hbit
            have HF : Hid (keyG l (nthG l x) places j (y * (l[j]?.getD 0 + 1) + (nthG l x)[j]?.getD 0) = keyL l (nthG l x) places) := by show _ = _; rw [← HR2.out, keyG, hbit]; simp
            clear hbit
            go_wp2_with fail
            have w1 := W1.out
            have w2' := W2.out
            have w3 := W3.out
            go_quiet (fail)
            clear w1 w2' w3
            go_wp2_with fail
            go_roundw
            case rel => exact ⟨j, _, by omega, rfl, rfl, hq1, HQ2.out, HF.out, _, rfl⟩
            case measure => simp [intOf]
    · have HF : Hid (decideB l all part places = true) := by show _ = _; rw [← HR.out, List.drop_of_length_le (by have := HZ.out.1; omega)]; rfl
      go_wp2
      go_ret
      exact ⟨ret_bool HF.out.symm, HK.1.below⟩
end Go.Proofs.Ytlicijnaacdceaa
