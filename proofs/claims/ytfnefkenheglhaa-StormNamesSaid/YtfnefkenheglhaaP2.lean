/- Package storm: the iterator over the places of a rectangle gives them. No condition. -/
import Derived.Test.YtfnefkenheglhaaRanH
import Derived.Test.YtfnefkenheglhaaP1
import Derived.Test.YtfnefkenheglhaaA4
import Derived.StillTailTactics
import Derived.Shelf.Abstract
import Derived.OwnWalkIn
import Derived.TacticsInMore
import Derived.LoopNIn
import Derived.LoopIn
namespace Go.Proofs.Ytfnefkenheglhaa
open Go.RowKit

theorem yield_any {m : Nat} (m' : Nat) {l : Nat} {args : Array Value} {W : World} {R : Ending → World → Prop} (h : YieldAt Fence.wide m Try.prog l args W R) : YieldAt Fence.wide m' Try.prog l args W R := by
  obtain ⟨fn, tmps, assign, body, hy, hR⟩ := h
  exact ⟨fn, tmps, assign, body, hy, ⟨hR.1, fun c cs _ => hR.2 c cs (fun d h => by cases h)⟩⟩

theorem nums_len (r : Rng) : r.nums.length = r.cnt.toNat := by simp [Rng.nums]
theorem nums_get {r : Rng} {i : Nat} (h : i < r.cnt.toNat) : r.nums[i]? = some (r.lo + i) := by simp [Rng.nums, h]
theorem nums_take {r : Rng} {i : Nat} (h : i < r.cnt.toNat) : r.nums.take (i + 1) = r.nums.take i ++ [r.lo + i] := by
  rw [List.take_add_one, nums_get h]; rfl
theorem nums_split {r : Rng} {i : Nat} (h : i < r.cnt.toNat) : r.nums = r.nums.take i ++ (r.lo + i) :: r.nums.drop (i + 1) := by
  conv => lhs; rw [← List.take_append_drop i r.nums]
  rw [drop_at' (nums_get h)]
theorem flat_split {α : Type} (r : Rng) (f : Int → List α) {i : Nat} (h : i < r.cnt.toNat) : r.nums.flatMap f = (r.nums.take i).flatMap f ++ f (r.lo + i) ++ (r.nums.drop (i + 1)).flatMap f := by
  conv => lhs; rw [nums_split h]
  simp
theorem flat_more {α : Type} (r : Rng) (f : Int → List α) {i : Nat} (h : i < r.cnt.toNat) : (r.nums.take (i + 1)).flatMap f = (r.nums.take i).flatMap f ++ f (r.lo + i) := by
  rw [nums_take h]; simp
theorem map_split {α : Type} (r : Rng) (f : Int → α) {i : Nat} (h : i < r.cnt.toNat) : r.nums.map f = (r.nums.take i).map f ++ f (r.lo + i) :: (r.nums.drop (i + 1)).map f := by
  conv => lhs; rw [nums_split h]
  simp
theorem map_more {α : Type} (r : Rng) (f : Int → α) {i : Nat} (h : i < r.cnt.toNat) : (r.nums.take (i + 1)).map f = (r.nums.take i).map f ++ [f (r.lo + i)] := by
  rw [nums_take h]; simp
theorem take_all (r : Rng) {i : Nat} (h : r.cnt.toNat ≤ i) : r.nums.take i = r.nums := List.take_of_length_le (by rw [nums_len]; exact h)
/-- Numbers are small. -/
structure SmallR (r : Rng) : Prop where
  lo : -1000 ≤ r.lo
  lo' : r.lo ≤ 1000
  hi : -1000 ≤ r.hi
  hi' : r.hi ≤ 1000
def encP (p : Int × Int) : Array Value := #[.int .i64 p.1, .int .i64 p.2]
def rowL (y : Rng) (a : Int) : List (Int × Int) := y.nums.map fun b => (a, b)
theorem near_below {w w' : World} (h : Below w.heap.size w w') : Near (fun _ => False) w w' := Near.of_below h fun k h1 h2 => by omega
theorem RecAt.near {C : Nat → Prop} {w w' : World} {b : Nat} {x y : Rng} (h : RecAt w b x y) (hn : Near C w w') (hC : ¬ C b) : RecAt w' b x y := h.kept (hn.block _ h.lt hC)

set_option maxRecDepth 40000 in
set_option maxHeartbeats 8000000 in
theorem places_gives (x y : Rng) (B : Nat) (hx : SmallR x) (hy : SmallR y) (w : World) (k : Nat) (hR : RecAt w B x y) :
    Gives3 Fence.wide k Try.prog 113 #[.pointer (some ⟨B, 0, none⟩)] encP (placesL x y) (fun i => i = B) w := by
  intro l0 J Jx C W hW hC hJ hJx hY h0
  have hR1 := hR.below hW
  have hargs : (#[.func (.yield l0) #[] #[]] ++ #[.pointer (some ⟨B, 0, none⟩)] : Array Value) = #[.func (.yield l0) #[] #[], .pointer (some ⟨B, 0, none⟩)] := rfl
  rw [hargs]
  have x1 := hx.lo; have x2 := hx.lo'; have x3 := hx.hi; have x4 := hx.hi'
  have y1 := hy.lo; have y2 := hy.lo'; have y3 := hy.hi; have y4 := hy.hi'
  have hxc : x.cnt ≤ 3000 := by unfold Rng.cnt; omega
  have hyc : y.cnt ≤ 3000 := by unfold Rng.cnt; omega
  have HC := hid hC
  have HJ := hid hJ
  have HY := hid hY
  clear hR hW hC hJ hJx hY hx hy hargs
  refine (callsIn_wide (n := k)).2 ((callsIn_wide (n := 20)).1 ?_)
  refine callsIn_of_wp Try.func113 rfl trivial ?_ rfl
  simp only [Try.ntmps113, List.size_toArray, List.length_cons, List.length_nil, Nat.reduceAdd, Nat.reduceSub, Array.replicate_succ, Array.replicate_zero, List.push_toArray, List.append_toArray, List.nil_append, List.cons_append]
  have c0 := hR1.c0; have c1 := hR1.c1; have c2 := hR1.c2; have c3 := hR1.c3
  gi_wp2
  refine ⟨trivial, ?_⟩
  gi_at_call 114
  refine (callsIn_wide.2 (rsize_any x _ (by omega) (by omega) (by omega) (by omega))).mono ?_
  rintro e w1 ⟨rfl, hb1⟩
  have HR := hid (hR1.below hb1)
  have HJ1 := hid (HJ.out _ _ _ h0 (near_below hb1))
  have HZ := hid hb1.size
  clear hR1 h0 c0 c1 c2 c3 hb1
  gi_wp2
  gi_loopw [8] (fun i wr => ∃ n : Nat, n ≤ x.cnt.toNat ∧ i = .int .i64 n ∧ J ((x.nums.take n).flatMap (rowL y)) wr ∧ RecAt wr B x y ∧ W.heap.size ≤ wr.heap.size) (fun i _ => x.cnt.toNat - (intOf i).toNat)
  case atStart => exact ⟨0, by omega, rfl, by simpa using HJ1.out, HR.out, HZ.out⟩
  case round =>
    clear HR HJ1 HZ
    obtain ⟨n, hn, rfl, hj, hR, hz⟩ := hrel
    by_cases hlt : n < x.cnt.toNat
    · have hlt' : (n : Int) < x.cnt := by omega
      have c0 := hR.c0; have c1 := hR.c1; have c2 := hR.c2; have c3 := hR.c3
      have HR := hid hR; have HJ1 := hid hj; have HZ := hid hz
      clear hR hj hz
      gi_wp2
      refine ⟨trivial, ?_⟩
      gi_at_call 114
      refine (callsIn_wide.2 (rsize_any y _ (by omega) (by omega) (by omega) (by omega))).mono ?_
      rintro e w2 ⟨rfl, hb2⟩
      have HR2 := hid (HR.out.below hb2)
      have HJ2 := hid (HJ.out _ _ _ HJ1.out (near_below hb2))
      have HZ2 : Hid (W.heap.size ≤ w2.heap.size) := Nat.le_trans HZ.out hb2.size
      clear HR HJ1 HZ c0 c1 c2 c3 hb2
      have HS := hid (flat_split x (rowL y) hlt)
      have HM := hid (flat_more x (rowL y) hlt)
      gi_wp2
      obtain ⟨wo, rfl⟩ : ∃ wo : World, wo = wr := ⟨_, rfl⟩
      gi_loopw [14] (fun i wr => ∃ m : Nat, m ≤ y.cnt.toNat ∧ i = .int .i64 m ∧ J ((x.nums.take n).flatMap (rowL y) ++ (y.nums.take m).map (fun b => (x.lo + n, b))) wr ∧ RecAt wr B x y ∧ W.heap.size ≤ wr.heap.size) (fun i _ => y.cnt.toNat - (intOf i).toNat)
      case atStart => exact ⟨0, by omega, rfl, by simpa using HJ2.out, HR2.out, HZ2.out⟩
      case round =>
        clear HR2 HJ2 HZ2
        obtain ⟨m, hm, rfl, hj, hR, hz⟩ := hrel
        by_cases hlm : m < y.cnt.toNat
        · have hlm' : (m : Int) < y.cnt := by omega
          have HT := hid (map_split y (fun b => (x.lo + n, b)) hlm)
          have HN := hid (map_more y (fun b => (x.lo + n, b)) hlm)
          have HALL : Hid (placesL x y = ((x.nums.take n).flatMap (rowL y) ++ (y.nums.take m).map (fun b => (x.lo + n, b))) ++ (x.lo + n, y.lo + m) :: ((y.nums.drop (m + 1)).map (fun b => (x.lo + n, b)) ++ (x.nums.drop (n + 1)).flatMap (rowL y))) := by
            show _ = _
            have h1 : placesL x y = x.nums.flatMap (rowL y) := rfl
            have h2 : rowL y (x.lo + n) = y.nums.map (fun b => (x.lo + n, b)) := rfl
            rw [h1, HS.out, h2, HT.out]
            simp
          have c0 := hR.c0; have c1 := hR.c1; have c2 := hR.c2; have c3 := hR.c3
          obtain ⟨fn, tmps, assign, body, hy, hRd⟩ := yield_any (20 - 1) (HY.out _ _ _ wr HALL.out hz hj)
          simp only [encP] at hy
          have HR := hid hR; have HZ := hid hz
          clear hR hz hj
          gi_wp2
          refine hRd.mono ?_
          rintro e W' (⟨rfl, hj2, hn2⟩ | ⟨rfl, hx2, _⟩)
          · have HR2 := hid (HR.out.near hn2 (fun hc => HC.out _ hc rfl))
            have HZ2 : Hid (W.heap.size ≤ W'.heap.size) := Nat.le_trans HZ.out hn2.size
            have HJ2 := hid hj2
            clear hj2 hn2 hRd hy
            gi_wp2
            go_roundw
            case rel => exact ⟨m + 1, by omega, by go_num, by rw [HN.out, ← List.append_assoc]; exact HJ2.out, HR2.out, HZ2.out⟩
            case measure => simp [intOf]; omega
          · have HX := hid hx2
            clear hx2 hRd hy
            gi_wp2
            refine bodyPost_ret (results_none rfl _ _ _) rfl ?_
            exact ⟨⟨_, rfl⟩, .inr ⟨_, _, by rw [HALL.out, List.append_assoc]; rfl, HX.out⟩⟩
        · have hmm : y.nums.take m = y.nums := take_all y (by omega)
          have HE : Hid ((x.nums.take (n + 1)).flatMap (rowL y) = (x.nums.take n).flatMap (rowL y) ++ (y.nums.take m).map (fun b => (x.lo + n, b))) := by show _ = _; rw [HM.out, hmm]; rfl
          have HJ2 := hid hj; have HR2 := hid hR; have HZ2 := hid hz
          clear hmm hj hR hz
          gi_wp2
          go_roundw
          case rel => exact ⟨n + 1, by omega, by go_num, by rw [HE.out]; exact HJ2.out, HR2.out, HZ2.out⟩
          case measure => simp [intOf]; omega
    · have hmm : x.nums.take n = x.nums := take_all x (by omega)
      have HE : Hid ((x.nums.take n).flatMap (rowL y) = placesL x y) := by show _ = _; rw [hmm]; rfl
      have HJ2 := hid hj
      clear hmm hj hR hz
      gi_wp2
      go_end0
      exact ⟨⟨_, rfl⟩, .inl (HE.out ▸ HJ2.out)⟩
end Go.Proofs.Ytfnefkenheglhaa
