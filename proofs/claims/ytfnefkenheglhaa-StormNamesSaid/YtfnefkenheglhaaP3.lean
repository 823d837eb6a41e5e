/- Package storm: the iterator over all truths without cards gives them. No condition. -/
import Derived.Test.YtfnefkenheglhaaP2
import Derived.Test.YtfnefkenheglhaaA2
namespace Go.Proofs.Ytfnefkenheglhaa
open Go.RowKit

def encT (t : Tru) : Array Value := #[.agg #[.int .i64 t.a, .int .i64 t.b, .int .i64 t.half, .int .i64 t.peak]]
def gH (s : Sto) (a b h : Int) : List Tru := s.peak.nums.map fun p => ⟨a, b, h, p⟩
def gB (s : Sto) (a b : Int) : List Tru := s.half.nums.flatMap (gH s a b)
def gA (s : Sto) (a : Int) : List Tru := s.b.nums.flatMap (gB s a)
theorem poss_eq (s : Sto) : possL s = s.a.nums.flatMap (gA s) := rfl

/-- What the iterator reads. -/
structure ItAt (W : World) (bv b : Nat) (s : Sto) (p : Option Addr) (n c : Nat) : Prop where
  box : W.cell? ⟨bv, 0, none⟩ = some (.pointer (some ⟨b, 0, none⟩))
  sto : StoAt W b s p n c
theorem ItAt.below {W W' : World} {bv b : Nat} {s : Sto} {p : Option Addr} {n c : Nat} (h : ItAt W bv b s p n c) (hb : Below W.heap.size W W') : ItAt W' bv b s p n c := ⟨(hb.cell (p := ⟨bv, 0, none⟩) (World.block_lt_of_cell? _ _ h.box)).trans h.box, h.sto.below hb⟩
theorem ItAt.near {C : Nat → Prop} {W W' : World} {bv b : Nat} {s : Sto} {p : Option Addr} {n c : Nat} (h : ItAt W bv b s p n c) (hn : Near C W W') (h1 : ¬ C bv) (h2 : ¬ C b) : ItAt W' bv b s p n c :=
  ⟨(World.cell?_of_block (hn.block bv (World.block_lt_of_cell? _ _ h.box) h1)).trans h.box, h.sto.kept (hn.block _ h.sto.lt h2)⟩
theorem split_in {α : Type} {all D T : List α} {r : Rng} {f : Int → List α} (h : all = D ++ r.nums.flatMap f ++ T) {i : Nat} (hi : i < r.cnt.toNat) : all = (D ++ (r.nums.take i).flatMap f) ++ f (r.lo + i) ++ ((r.nums.drop (i + 1)).flatMap f ++ T) := by
  rw [h, flat_split r f hi]; simp
theorem split_at {α : Type} {all D T : List α} {r : Rng} {f : Int → α} (h : all = D ++ r.nums.map f ++ T) {i : Nat} (hi : i < r.cnt.toNat) : all = (D ++ (r.nums.take i).map f) ++ f (r.lo + i) :: ((r.nums.drop (i + 1)).map f ++ T) := by
  rw [h, map_split r f hi]; simp

set_option maxRecDepth 100000 in
set_option maxHeartbeats 16000000 in
theorem possible_gives (s : Sto) (p : Option Addr) (n c bv b : Nat) (hr : rangesB s = true) (h12 : s.high ≤ 12) (w : World) (k : Nat) (hIt : ItAt w bv b s p n c) :
    Gives3 Fence.wide k Try.prog 115 #[.pointer (some ⟨bv, 0, none⟩)] encT (possL s) (fun i => i = bv ∨ i = b) w := by
  intro l0 J Jx C W hW hC hJ hJx hY h0
  have hI := hIt.below hW
  have hargs : (#[.func (.yield l0) #[] #[]] ++ #[.pointer (some ⟨bv, 0, none⟩)] : Array Value) = #[.func (.yield l0) #[] #[], .pointer (some ⟨bv, 0, none⟩)] := rfl
  rw [hargs]
  obtain ⟨r1, r2, r3, r4, r5, r6, r7, r8, r9, r10, r11, r12, r13, r14, r15, r16⟩ := ranges_bd hr h12
  obtain ⟨a0, a1, b0, b1, d0, d1, p0, p1⟩ := many_bd hr h12
  have HC := hid hC
  have HJ := hid hJ
  have HY := hid hY
  have HA0 : Hid (possL s = [] ++ s.a.nums.flatMap (gA s) ++ []) := by show _ = _; rw [poss_eq]; simp
  clear hIt hW hC hJ hJx hY hargs hr h12
  refine (callsIn_wide (n := k)).2 ((callsIn_wide (n := 20)).1 ?_)
  refine callsIn_of_wp Try.func115 rfl trivial ?_ rfl
  simp only [Try.ntmps115, List.size_toArray, List.length_cons, List.length_nil, Nat.reduceAdd, Nat.reduceSub, Array.replicate_succ, Array.replicate_zero, List.push_toArray, List.append_toArray, List.nil_append, List.cons_append]
  have HI0 := hid hI
  have HJ0 : Hid (J [] W) := h0
  have HZ0 : Hid (W.heap.size ≤ W.heap.size) := Nat.le_refl _
  obtain ⟨D0, hD0⟩ : ∃ D : List Tru, [] = D := ⟨_, rfl⟩
  obtain ⟨T0, hT0⟩ : ∃ D : List Tru, [] = D := ⟨_, rfl⟩
  replace HA0 : Hid (possL s = D0 ++ s.a.nums.flatMap (gA s) ++ T0) := by rw [← hD0, ← hT0]; exact HA0
  rw [hD0] at HJ0
  have HD0 := hid hD0.symm
  clear hI h0 hD0 hT0
  have eb := HI0.out.box; have e0 := HI0.out.sto.c3; have e1 := HI0.out.sto.c4
  gi_wp2
  refine ⟨trivial, ?_⟩
  gi_at_call 114
  refine (callsIn_wide.2 (rsize_any s.a _ (by omega) (by omega) (by omega) (by omega))).mono ?_
  rintro e v0 ⟨rfl, hb⟩
  have HIa0 := hid (HI0.out.below hb)
  have HJa0 := hid (HJ.out _ _ _ HJ0.out (near_below hb))
  have HZa0 : Hid (W.heap.size ≤ v0.heap.size) := Nat.le_trans HZ0.out hb.size
  clear hb eb e0 e1 HI0 HJ0 HZ0
  gi_wp2
  gi_loopw [13] (fun i wr => ∃ n1 : Nat, n1 ≤ s.a.cnt.toNat ∧ i = .int .i64 n1 ∧ J (D0 ++ (s.a.nums.take n1).flatMap (gA s)) wr ∧ ItAt wr bv b s p n c ∧ W.heap.size ≤ wr.heap.size) (fun i _ => s.a.cnt.toNat - (intOf i).toNat)
  case atStart => exact ⟨0, by omega, rfl, by simpa using HJa0.out, HIa0.out, HZa0.out⟩
  case round =>
    clear HJa0 HIa0 HZa0
    obtain ⟨n1, hn, rfl, hj, hI, hz⟩ := hrel
    by_cases hlt0 : n1 < s.a.cnt.toNat
    · have hlt : (n1 : Int) < s.a.cnt := by omega
      have hax := split_in HA0.out hlt0
      have HM0 := hid (flat_more s.a (gA s) hlt0)
      obtain ⟨D1, hD⟩ : ∃ D, D0 ++ (s.a.nums.take n1).flatMap (gA s) = D := ⟨_, rfl⟩
      obtain ⟨T1, hT⟩ : ∃ T, (s.a.nums.drop (n1 + 1)).flatMap (gA s) ++ T0 = T := ⟨_, rfl⟩
      rw [hD, hT] at hax
      have HA1 : Hid (possL s = D1 ++ s.b.nums.flatMap (gB s (s.a.lo + n1)) ++ T1) := hax
      rw [hD] at hj
      have HD1 := hid hD.symm
      have HI1 := hid hI; have HJ1 := hid hj; have HZ1 := hid hz
      clear hI hj hz hD hT hax
      have eb := HI1.out.box; have e0 := HI1.out.sto.c5; have e1 := HI1.out.sto.c6
      gi_wp2
      refine ⟨trivial, ?_⟩
      gi_at_call 114
      refine (callsIn_wide.2 (rsize_any s.b _ (by omega) (by omega) (by omega) (by omega))).mono ?_
      rintro e v1 ⟨rfl, hb⟩
      have HIa1 := hid (HI1.out.below hb)
      have HJa1 := hid (HJ.out _ _ _ HJ1.out (near_below hb))
      have HZa1 : Hid (W.heap.size ≤ v1.heap.size) := Nat.le_trans HZ1.out hb.size
      clear hb eb e0 e1 HI1 HJ1 HZ1
      gi_wp2
      obtain ⟨wo1, rfl⟩ : ∃ wo : World, wo = wr := ⟨_, rfl⟩
      gi_loopw [22] (fun i wr => ∃ n2 : Nat, n2 ≤ s.b.cnt.toNat ∧ i = .int .i64 n2 ∧ J (D1 ++ (s.b.nums.take n2).flatMap (gB s (s.a.lo + n1))) wr ∧ ItAt wr bv b s p n c ∧ W.heap.size ≤ wr.heap.size) (fun i _ => s.b.cnt.toNat - (intOf i).toNat)
      case atStart => exact ⟨0, by omega, rfl, by simpa using HJa1.out, HIa1.out, HZa1.out⟩
      case round =>
        clear HJa1 HIa1 HZa1
        obtain ⟨n2, hn, rfl, hj, hI, hz⟩ := hrel
        by_cases hlt1 : n2 < s.b.cnt.toNat
        · have hlt : (n2 : Int) < s.b.cnt := by omega
          have hax := split_in HA1.out hlt1
          have HM1 := hid (flat_more s.b (gB s (s.a.lo + n1)) hlt1)
          obtain ⟨D2, hD⟩ : ∃ D, D1 ++ (s.b.nums.take n2).flatMap (gB s (s.a.lo + n1)) = D := ⟨_, rfl⟩
          obtain ⟨T2, hT⟩ : ∃ T, (s.b.nums.drop (n2 + 1)).flatMap (gB s (s.a.lo + n1)) ++ T1 = T := ⟨_, rfl⟩
          rw [hD, hT] at hax
          have HA2 : Hid (possL s = D2 ++ s.half.nums.flatMap (gH s (s.a.lo + n1) (s.b.lo + n2)) ++ T2) := hax
          rw [hD] at hj
          have HD2 := hid hD.symm
          have HI2 := hid hI; have HJ2 := hid hj; have HZ2 := hid hz
          clear hI hj hz hD hT hax
          have eb := HI2.out.box; have e0 := HI2.out.sto.c7; have e1 := HI2.out.sto.c8
          gi_wp2
          refine ⟨trivial, ?_⟩
          gi_at_call 114
          refine (callsIn_wide.2 (rsize_any s.half _ (by omega) (by omega) (by omega) (by omega))).mono ?_
          rintro e v2 ⟨rfl, hb⟩
          have HIa2 := hid (HI2.out.below hb)
          have HJa2 := hid (HJ.out _ _ _ HJ2.out (near_below hb))
          have HZa2 : Hid (W.heap.size ≤ v2.heap.size) := Nat.le_trans HZ2.out hb.size
          clear hb eb e0 e1 HI2 HJ2 HZ2
          gi_wp2
          obtain ⟨wo2, rfl⟩ : ∃ wo : World, wo = wr := ⟨_, rfl⟩
          gi_loopw [31] (fun i wr => ∃ n3 : Nat, n3 ≤ s.half.cnt.toNat ∧ i = .int .i64 n3 ∧ J (D2 ++ (s.half.nums.take n3).flatMap (gH s (s.a.lo + n1) (s.b.lo + n2))) wr ∧ ItAt wr bv b s p n c ∧ W.heap.size ≤ wr.heap.size) (fun i _ => s.half.cnt.toNat - (intOf i).toNat)
          case atStart => exact ⟨0, by omega, rfl, by simpa using HJa2.out, HIa2.out, HZa2.out⟩
          case round =>
            clear HJa2 HIa2 HZa2
            obtain ⟨n3, hn, rfl, hj, hI, hz⟩ := hrel
            by_cases hlt2 : n3 < s.half.cnt.toNat
            · have hlt : (n3 : Int) < s.half.cnt := by omega
              have hax := split_in HA2.out hlt2
              have HM2 := hid (flat_more s.half (gH s (s.a.lo + n1) (s.b.lo + n2)) hlt2)
              obtain ⟨D3, hD⟩ : ∃ D, D2 ++ (s.half.nums.take n3).flatMap (gH s (s.a.lo + n1) (s.b.lo + n2)) = D := ⟨_, rfl⟩
              obtain ⟨T3, hT⟩ : ∃ T, (s.half.nums.drop (n3 + 1)).flatMap (gH s (s.a.lo + n1) (s.b.lo + n2)) ++ T2 = T := ⟨_, rfl⟩
              rw [hD, hT] at hax
              have HA3 : Hid (possL s = D3 ++ s.peak.nums.map (fun z => (⟨s.a.lo + n1, s.b.lo + n2, s.half.lo + n3, z⟩ : Tru)) ++ T3) := hax
              rw [hD] at hj
              have HD3 := hid hD.symm
              have HI3 := hid hI; have HJ3 := hid hj; have HZ3 := hid hz
              clear hI hj hz hD hT hax
              have eb := HI3.out.box; have e0 := HI3.out.sto.c9; have e1 := HI3.out.sto.c10
              gi_wp2
              refine ⟨trivial, ?_⟩
              gi_at_call 114
              refine (callsIn_wide.2 (rsize_any s.peak _ (by omega) (by omega) (by omega) (by omega))).mono ?_
              rintro e v3 ⟨rfl, hb⟩
              have HIa3 := hid (HI3.out.below hb)
              have HJa3 := hid (HJ.out _ _ _ HJ3.out (near_below hb))
              have HZa3 : Hid (W.heap.size ≤ v3.heap.size) := Nat.le_trans HZ3.out hb.size
              clear hb eb e0 e1 HI3 HJ3 HZ3
              gi_wp2
              obtain ⟨wo3, rfl⟩ : ∃ wo : World, wo = wr := ⟨_, rfl⟩
              gi_loopw [40] (fun i wr => ∃ n4 : Nat, n4 ≤ s.peak.cnt.toNat ∧ i = .int .i64 n4 ∧ J (D3 ++ (s.peak.nums.take n4).map (fun z => (⟨s.a.lo + n1, s.b.lo + n2, s.half.lo + n3, z⟩ : Tru))) wr ∧ ItAt wr bv b s p n c ∧ W.heap.size ≤ wr.heap.size) (fun i _ => s.peak.cnt.toNat - (intOf i).toNat)
              case atStart => exact ⟨0, by omega, rfl, by simpa using HJa3.out, HIa3.out, HZa3.out⟩
              case round =>
                clear HJa3 HIa3 HZa3
                obtain ⟨n4, hn, rfl, hj, hI, hz⟩ := hrel
                by_cases hlt3 : n4 < s.peak.cnt.toNat
                · have hlt : (n4 : Int) < s.peak.cnt := by omega
                  have HALL := hid (split_at HA3.out hlt3)
                  have HM3 := hid (map_more s.peak (fun z => (⟨s.a.lo + n1, s.b.lo + n2, s.half.lo + n3, z⟩ : Tru)) hlt3)
                  obtain ⟨fn, tmps, assign, body, hy, hRd⟩ := yield_any (20 - 1) (HY.out _ _ _ wr.drew HALL.out hz (HJ.out _ _ _ hj (Near.refl _ _).drew))
                  simp only [encT] at hy
                  have q0 : IntKind.i64.wrap (s.a.lo + n1) = s.a.lo + n1 := IntWalk.i64_in _ (by omega)
                  have q1 : IntKind.i64.wrap (s.b.lo + n2) = s.b.lo + n2 := IntWalk.i64_in _ (by omega)
                  have q2 : IntKind.i64.wrap (s.half.lo + n3) = s.half.lo + n3 := IntWalk.i64_in _ (by omega)
                  have q3 : IntKind.i64.wrap (s.peak.lo + n4) = s.peak.lo + n4 := IntWalk.i64_in _ (by omega)
                  have HI := hid hI; have HZ := hid hz
                  have hS0 : ItAt wr.drew bv b s p n c := ⟨hI.box, hI.sto.below (Below.refl _ _).drew⟩
                  clear hI hz hj
                  gi_wp2
                  refine wpIn_region_anyS (S := fun V => ItAt V bv b s p n c) (by kernel_rfl) hS0 (fun hS => ?_)
                  simp only [List.size_toArray, List.length_cons, List.length_nil, Nat.reduceAdd, Array.replicate_succ, Array.replicate_zero, List.push_toArray, List.nil_append, List.cons_append]
                  refine anyS_take (i := 0) (v := ?_) rfl rfl (by kernel_rfl) (by kernel_rfl) (by kernel_rfl) (fun _ _ _ h => h) (Or.inl ⟨by rfl, fun V hV => ?_⟩) (fun _ => rfl) (by assumption) ?_
                  rotate_left
                  · go_simp
                    try with_reducible rfl
                  try simp only [Act.put, List.getElem_toArray, List.getElem_cons_zero, List.setIfInBounds_toArray, List.set_cons_zero, List.set_cons_succ]
                  refine anyS_take (i := 1) (v := ?_) rfl rfl (by kernel_rfl) (by kernel_rfl) (by kernel_rfl) (fun _ _ _ h => h) (Or.inl ⟨by rfl, fun V hV => ?_⟩) (fun _ => rfl) (by assumption) ?_
                  rotate_left
                  · have e0 := hV.box; go_simp
                    try with_reducible rfl
                  try simp only [Act.put, List.getElem_toArray, List.getElem_cons_zero, List.getElem_cons_succ, List.setIfInBounds_toArray, List.set_cons_zero, List.set_cons_succ]
                  refine anyS_take (i := 2) (v := ?_) rfl rfl (by kernel_rfl) (by kernel_rfl) (by kernel_rfl) (fun _ _ _ h => h) (Or.inl ⟨by rfl, fun V hV => ?_⟩) (fun _ => rfl) (by assumption) ?_
                  rotate_left
                  · go_simp
                    try with_reducible rfl
                  try simp only [Act.put, List.getElem_toArray, List.getElem_cons_zero, List.getElem_cons_succ, List.setIfInBounds_toArray, List.set_cons_zero, List.set_cons_succ]
                  refine anyS_take (i := 3) (v := ?_) rfl rfl (by kernel_rfl) (by kernel_rfl) (by kernel_rfl) (fun _ _ _ h => h) (Or.inl ⟨by rfl, fun V hV => ?_⟩) (fun _ => rfl) (by assumption) ?_
                  rotate_left
                  · go_simp
                    try with_reducible rfl
                  try simp only [Act.put, List.getElem_toArray, List.getElem_cons_zero, List.getElem_cons_succ, List.setIfInBounds_toArray, List.set_cons_zero, List.set_cons_succ]
                  refine anyS_take (i := 4) (v := ?_) rfl rfl (by kernel_rfl) (by kernel_rfl) (by kernel_rfl) (fun _ _ _ h => h) (Or.inl ⟨by rfl, fun V hV => ?_⟩) (fun _ => rfl) (by assumption) ?_
                  rotate_left
                  · go_simp
                    try with_reducible rfl
                  try simp only [Act.put, List.getElem_toArray, List.getElem_cons_zero, List.getElem_cons_succ, List.setIfInBounds_toArray, List.set_cons_zero, List.set_cons_succ]
                  refine anyS_take (i := 5) (v := ?_) rfl rfl (by kernel_rfl) (by kernel_rfl) (by kernel_rfl) (fun _ _ _ h => h) (Or.inl ⟨by rfl, fun V hV => ?_⟩) (fun _ => rfl) (by assumption) ?_
                  rotate_left
                  · go_simp
                    try with_reducible rfl
                  try simp only [Act.put, List.getElem_toArray, List.getElem_cons_zero, List.getElem_cons_succ, List.setIfInBounds_toArray, List.set_cons_zero, List.set_cons_succ]
                  refine anyS_take (i := 6) (v := ?_) rfl rfl (by kernel_rfl) (by kernel_rfl) (by kernel_rfl) (fun _ _ _ h => h) (Or.inl ⟨by rfl, fun V hV => ?_⟩) (fun _ => rfl) (by assumption) ?_
                  rotate_left
                  · have e0 := hV.sto.c3; go_simp
                    try with_reducible rfl
                  try simp only [Act.put, List.getElem_toArray, List.getElem_cons_zero, List.getElem_cons_succ, List.setIfInBounds_toArray, List.set_cons_zero, List.set_cons_succ]
                  refine anyS_take (i := 7) (v := ?_) rfl rfl (by kernel_rfl) (by kernel_rfl) (by kernel_rfl) (fun _ _ _ h => h) (Or.inl ⟨by rfl, fun V hV => ?_⟩) (fun _ => rfl) (by assumption) ?_
                  rotate_left
                  · go_simp
                    try with_reducible rfl
                  try simp only [Act.put, List.getElem_toArray, List.getElem_cons_zero, List.getElem_cons_succ, List.setIfInBounds_toArray, List.set_cons_zero, List.set_cons_succ]
                  refine anyS_take (i := 8) (v := ?_) rfl rfl (by kernel_rfl) (by kernel_rfl) (by kernel_rfl) (fun _ _ _ h => h) (Or.inl ⟨by rfl, fun V hV => ?_⟩) (fun _ => rfl) (by assumption) ?_
                  rotate_left
                  · go_simp
                    try with_reducible rfl
                  try simp only [Act.put, List.getElem_toArray, List.getElem_cons_zero, List.getElem_cons_succ, List.setIfInBounds_toArray, List.set_cons_zero, List.set_cons_succ]
                  refine anyS_take (i := 9) (v := ?_) rfl rfl (by kernel_rfl) (by kernel_rfl) (by kernel_rfl) (fun _ _ _ h => h) (Or.inl ⟨by rfl, fun V hV => ?_⟩) (fun _ => rfl) (by assumption) ?_
                  rotate_left
                  · have e0 := hV.box; go_simp
                    try with_reducible rfl
                  try simp only [Act.put, List.getElem_toArray, List.getElem_cons_zero, List.getElem_cons_succ, List.setIfInBounds_toArray, List.set_cons_zero, List.set_cons_succ]
                  refine anyS_take (i := 10) (v := ?_) rfl rfl (by kernel_rfl) (by kernel_rfl) (by kernel_rfl) (fun _ _ _ h => h) (Or.inl ⟨by rfl, fun V hV => ?_⟩) (fun _ => rfl) (by assumption) ?_
                  rotate_left
                  · go_simp
                    try with_reducible rfl
                  try simp only [Act.put, List.getElem_toArray, List.getElem_cons_zero, List.getElem_cons_succ, List.setIfInBounds_toArray, List.set_cons_zero, List.set_cons_succ]
                  refine anyS_take (i := 11) (v := ?_) rfl rfl (by kernel_rfl) (by kernel_rfl) (by kernel_rfl) (fun _ _ _ h => h) (Or.inl ⟨by rfl, fun V hV => ?_⟩) (fun _ => rfl) (by assumption) ?_
                  rotate_left
                  · go_simp
                    try with_reducible rfl
                  try simp only [Act.put, List.getElem_toArray, List.getElem_cons_zero, List.getElem_cons_succ, List.setIfInBounds_toArray, List.set_cons_zero, List.set_cons_succ]
                  refine anyS_take (i := 12) (v := ?_) rfl rfl (by kernel_rfl) (by kernel_rfl) (by kernel_rfl) (fun _ _ _ h => h) (Or.inl ⟨by rfl, fun V hV => ?_⟩) (fun _ => rfl) (by assumption) ?_
                  rotate_left
                  · go_simp
                    try with_reducible rfl
                  try simp only [Act.put, List.getElem_toArray, List.getElem_cons_zero, List.getElem_cons_succ, List.setIfInBounds_toArray, List.set_cons_zero, List.set_cons_succ]
                  refine anyS_take (i := 13) (v := ?_) rfl rfl (by kernel_rfl) (by kernel_rfl) (by kernel_rfl) (fun _ _ _ h => h) (Or.inl ⟨by rfl, fun V hV => ?_⟩) (fun _ => rfl) (by assumption) ?_
                  rotate_left
                  · go_simp
                    try with_reducible rfl
                  try simp only [Act.put, List.getElem_toArray, List.getElem_cons_zero, List.getElem_cons_succ, List.setIfInBounds_toArray, List.set_cons_zero, List.set_cons_succ]
                  refine anyS_take (i := 14) (v := ?_) rfl rfl (by kernel_rfl) (by kernel_rfl) (by kernel_rfl) (fun _ _ _ h => h) (Or.inl ⟨by rfl, fun V hV => ?_⟩) (fun _ => rfl) (by assumption) ?_
                  rotate_left
                  · have e0 := hV.sto.c5; go_simp
                    try with_reducible rfl
                  try simp only [Act.put, List.getElem_toArray, List.getElem_cons_zero, List.getElem_cons_succ, List.setIfInBounds_toArray, List.set_cons_zero, List.set_cons_succ]
                  refine anyS_take (i := 15) (v := ?_) rfl rfl (by kernel_rfl) (by kernel_rfl) (by kernel_rfl) (fun _ _ _ h => h) (Or.inl ⟨by rfl, fun V hV => ?_⟩) (fun _ => rfl) (by assumption) ?_
                  rotate_left
                  · go_simp
                    try with_reducible rfl
                  try simp only [Act.put, List.getElem_toArray, List.getElem_cons_zero, List.getElem_cons_succ, List.setIfInBounds_toArray, List.set_cons_zero, List.set_cons_succ]
                  refine anyS_take (i := 16) (v := ?_) rfl rfl (by kernel_rfl) (by kernel_rfl) (by kernel_rfl) (fun _ _ _ h => h) (Or.inl ⟨by rfl, fun V hV => ?_⟩) (fun _ => rfl) (by assumption) ?_
                  rotate_left
                  · go_simp
                    try with_reducible rfl
                  try simp only [Act.put, List.getElem_toArray, List.getElem_cons_zero, List.getElem_cons_succ, List.setIfInBounds_toArray, List.set_cons_zero, List.set_cons_succ]
                  refine anyS_take (i := 17) (v := ?_) rfl rfl (by kernel_rfl) (by kernel_rfl) (by kernel_rfl) (fun _ _ _ h => h) (Or.inl ⟨by rfl, fun V hV => ?_⟩) (fun _ => rfl) (by assumption) ?_
                  rotate_left
                  · have e0 := hV.box; go_simp
                    try with_reducible rfl
                  try simp only [Act.put, List.getElem_toArray, List.getElem_cons_zero, List.getElem_cons_succ, List.setIfInBounds_toArray, List.set_cons_zero, List.set_cons_succ]
                  refine anyS_take (i := 18) (v := ?_) rfl rfl (by kernel_rfl) (by kernel_rfl) (by kernel_rfl) (fun _ _ _ h => h) (Or.inl ⟨by rfl, fun V hV => ?_⟩) (fun _ => rfl) (by assumption) ?_
                  rotate_left
                  · go_simp
                    try with_reducible rfl
                  try simp only [Act.put, List.getElem_toArray, List.getElem_cons_zero, List.getElem_cons_succ, List.setIfInBounds_toArray, List.set_cons_zero, List.set_cons_succ]
                  refine anyS_take (i := 19) (v := ?_) rfl rfl (by kernel_rfl) (by kernel_rfl) (by kernel_rfl) (fun _ _ _ h => h) (Or.inl ⟨by rfl, fun V hV => ?_⟩) (fun _ => rfl) (by assumption) ?_
                  rotate_left
                  · go_simp
                    try with_reducible rfl
                  try simp only [Act.put, List.getElem_toArray, List.getElem_cons_zero, List.getElem_cons_succ, List.setIfInBounds_toArray, List.set_cons_zero, List.set_cons_succ]
                  refine anyS_take (i := 20) (v := ?_) rfl rfl (by kernel_rfl) (by kernel_rfl) (by kernel_rfl) (fun _ _ _ h => h) (Or.inl ⟨by rfl, fun V hV => ?_⟩) (fun _ => rfl) (by assumption) ?_
                  rotate_left
                  · go_simp
                    try with_reducible rfl
                  try simp only [Act.put, List.getElem_toArray, List.getElem_cons_zero, List.getElem_cons_succ, List.setIfInBounds_toArray, List.set_cons_zero, List.set_cons_succ]
                  refine anyS_take (i := 21) (v := ?_) rfl rfl (by kernel_rfl) (by kernel_rfl) (by kernel_rfl) (fun _ _ _ h => h) (Or.inl ⟨by rfl, fun V hV => ?_⟩) (fun _ => rfl) (by assumption) ?_
                  rotate_left
                  · go_simp
                    try with_reducible rfl
                  try simp only [Act.put, List.getElem_toArray, List.getElem_cons_zero, List.getElem_cons_succ, List.setIfInBounds_toArray, List.set_cons_zero, List.set_cons_succ]
                  refine anyS_take (i := 22) (v := ?_) rfl rfl (by kernel_rfl) (by kernel_rfl) (by kernel_rfl) (fun _ _ _ h => h) (Or.inl ⟨by rfl, fun V hV => ?_⟩) (fun _ => rfl) (by assumption) ?_
                  rotate_left
                  · have e0 := hV.sto.c7; go_simp
                    try with_reducible rfl
                  try simp only [Act.put, List.getElem_toArray, List.getElem_cons_zero, List.getElem_cons_succ, List.setIfInBounds_toArray, List.set_cons_zero, List.set_cons_succ]
                  refine anyS_take (i := 23) (v := ?_) rfl rfl (by kernel_rfl) (by kernel_rfl) (by kernel_rfl) (fun _ _ _ h => h) (Or.inl ⟨by rfl, fun V hV => ?_⟩) (fun _ => rfl) (by assumption) ?_
                  rotate_left
                  · go_simp
                    try with_reducible rfl
                  try simp only [Act.put, List.getElem_toArray, List.getElem_cons_zero, List.getElem_cons_succ, List.setIfInBounds_toArray, List.set_cons_zero, List.set_cons_succ]
                  refine anyS_take (i := 24) (v := ?_) rfl rfl (by kernel_rfl) (by kernel_rfl) (by kernel_rfl) (fun _ _ _ h => h) (Or.inl ⟨by rfl, fun V hV => ?_⟩) (fun _ => rfl) (by assumption) ?_
                  rotate_left
                  · go_simp
                    try with_reducible rfl
                  try simp only [Act.put, List.getElem_toArray, List.getElem_cons_zero, List.getElem_cons_succ, List.setIfInBounds_toArray, List.set_cons_zero, List.set_cons_succ]
                  refine anyS_take (i := 25) (v := ?_) rfl rfl (by kernel_rfl) (by kernel_rfl) (by kernel_rfl) (fun _ _ _ h => h) (Or.inl ⟨by rfl, fun V hV => ?_⟩) (fun _ => rfl) (by assumption) ?_
                  rotate_left
                  · have e0 := hV.box; go_simp
                    try with_reducible rfl
                  try simp only [Act.put, List.getElem_toArray, List.getElem_cons_zero, List.getElem_cons_succ, List.setIfInBounds_toArray, List.set_cons_zero, List.set_cons_succ]
                  refine anyS_take (i := 26) (v := ?_) rfl rfl (by kernel_rfl) (by kernel_rfl) (by kernel_rfl) (fun _ _ _ h => h) (Or.inl ⟨by rfl, fun V hV => ?_⟩) (fun _ => rfl) (by assumption) ?_
                  rotate_left
                  · go_simp
                    try with_reducible rfl
                  try simp only [Act.put, List.getElem_toArray, List.getElem_cons_zero, List.getElem_cons_succ, List.setIfInBounds_toArray, List.set_cons_zero, List.set_cons_succ]
                  refine anyS_take (i := 27) (v := ?_) rfl rfl (by kernel_rfl) (by kernel_rfl) (by kernel_rfl) (fun _ _ _ h => h) (Or.inl ⟨by rfl, fun V hV => ?_⟩) (fun _ => rfl) (by assumption) ?_
                  rotate_left
                  · go_simp
                    try with_reducible rfl
                  try simp only [Act.put, List.getElem_toArray, List.getElem_cons_zero, List.getElem_cons_succ, List.setIfInBounds_toArray, List.set_cons_zero, List.set_cons_succ]
                  refine anyS_take (i := 28) (v := ?_) rfl rfl (by kernel_rfl) (by kernel_rfl) (by kernel_rfl) (fun _ _ _ h => h) (Or.inl ⟨by rfl, fun V hV => ?_⟩) (fun _ => rfl) (by assumption) ?_
                  rotate_left
                  · go_simp
                    try with_reducible rfl
                  try simp only [Act.put, List.getElem_toArray, List.getElem_cons_zero, List.getElem_cons_succ, List.setIfInBounds_toArray, List.set_cons_zero, List.set_cons_succ]
                  refine anyS_take (i := 29) (v := ?_) rfl rfl (by kernel_rfl) (by kernel_rfl) (by kernel_rfl) (fun _ _ _ h => h) (Or.inl ⟨by rfl, fun V hV => ?_⟩) (fun _ => rfl) (by assumption) ?_
                  rotate_left
                  · go_simp
                    try with_reducible rfl
                  try simp only [Act.put, List.getElem_toArray, List.getElem_cons_zero, List.getElem_cons_succ, List.setIfInBounds_toArray, List.set_cons_zero, List.set_cons_succ]
                  refine anyS_take (i := 30) (v := ?_) rfl rfl (by kernel_rfl) (by kernel_rfl) (by kernel_rfl) (fun _ _ _ h => h) (Or.inl ⟨by rfl, fun V hV => ?_⟩) (fun _ => rfl) (by assumption) ?_
                  rotate_left
                  · have e0 := hV.sto.c9; go_simp
                    try with_reducible rfl
                  try simp only [Act.put, List.getElem_toArray, List.getElem_cons_zero, List.getElem_cons_succ, List.setIfInBounds_toArray, List.set_cons_zero, List.set_cons_succ]
                  refine anyS_take (i := 31) (v := ?_) rfl rfl (by kernel_rfl) (by kernel_rfl) (by kernel_rfl) (fun _ _ _ h => h) (Or.inl ⟨by rfl, fun V hV => ?_⟩) (fun _ => rfl) (by assumption) ?_
                  rotate_left
                  · go_simp
                    try with_reducible rfl
                  try simp only [Act.put, List.getElem_toArray, List.getElem_cons_zero, List.getElem_cons_succ, List.setIfInBounds_toArray, List.set_cons_zero, List.set_cons_succ]
                  refine anyS_take (i := 32) (v := ?_) rfl rfl (by kernel_rfl) (by kernel_rfl) (by kernel_rfl) (fun _ _ _ h => h) (Or.inl ⟨by rfl, fun V hV => ?_⟩) (fun _ => rfl) (by assumption) ?_
                  rotate_left
                  · go_simp
                    try with_reducible rfl
                  try simp only [Act.put, List.getElem_toArray, List.getElem_cons_zero, List.getElem_cons_succ, List.setIfInBounds_toArray, List.set_cons_zero, List.set_cons_succ]
                  refine anyS_take (i := 33) (v := ?_) rfl rfl (by kernel_rfl) (by kernel_rfl) (by kernel_rfl) (fun _ _ _ h => h) (Or.inl ⟨by rfl, fun V hV => ?_⟩) (fun _ => rfl) (by assumption) ?_
                  rotate_left
                  · go_simp
                    try with_reducible rfl
                  try simp only [Act.put, List.getElem_toArray, List.getElem_cons_zero, List.getElem_cons_succ, List.setIfInBounds_toArray, List.set_cons_zero, List.set_cons_succ]
                  refine anyS_one (i := 34) (by kernel_rfl) rfl (fun K hK => ?_)
                  go_simp
                  gi_wp2
                  refine hRd.mono ?_
                  rintro e W' (⟨rfl, hj2, hn2⟩ | ⟨rfl, hx2, hn2⟩)
                  · skip
                    have HI2 : Hid (ItAt W' bv b s p n c) := hid (hS.near hn2 (fun hc => HC.out _ hc (.inl rfl)) (fun hc => HC.out _ hc (.inr rfl)))
                    have HZ2 : Hid (W.heap.size ≤ W'.heap.size) := Nat.le_trans HZ.out hn2.size
                    have HJ2 := hid hj2
                    clear hj2 hn2 hRd hy hS
                    refine hK.out _ _ HI2.out (fun hS => ?_)
                    clear hK K
                    try simp only [List.setIfInBounds_toArray, List.set_cons_zero, List.set_cons_succ]
                    refine anyS_take (i := 35) (v := ?_) rfl rfl (by kernel_rfl) (by kernel_rfl) (by kernel_rfl) (fun _ _ _ h => h) (Or.inl ⟨by rfl, fun V hV => ?_⟩) (fun _ => rfl) (by assumption) ?_
                    rotate_left
                    · go_simp
                      try with_reducible rfl
                    try simp only [Act.put, List.getElem_toArray, List.getElem_cons_zero, List.getElem_cons_succ, List.setIfInBounds_toArray, List.set_cons_zero, List.set_cons_succ]
                    refine anyS_done (by kernel_rfl) ?_ _
                    clear hS hS0 q0 q1 q2 q3
                    gi_wp2
                    go_roundw
                    case rel => exact ⟨n4 + 1, by omega, by go_num, by rw [HM3.out, ← List.append_assoc]; exact HJ2.out, HI2.out, HZ2.out⟩
                    case measure => simp [intOf]; omega
                  · skip
                    have HI2 : Hid (ItAt W' bv b s p n c) := hid (hS.near hn2 (fun hc => HC.out _ hc (.inl rfl)) (fun hc => HC.out _ hc (.inr rfl)))
                    have HX2 := hid hx2
                    clear hx2 hn2 hRd hy hS
                    refine hK.out _ _ HI2.out (fun hS => ?_)
                    clear hK K
                    try simp only [List.setIfInBounds_toArray, List.set_cons_zero, List.set_cons_succ]
                    refine anyS_take (i := 35) (v := ?_) rfl rfl (by kernel_rfl) (by kernel_rfl) (by kernel_rfl) (fun _ _ _ h => h) (Or.inl ⟨by rfl, fun V hV => ?_⟩) (fun _ => rfl) (by assumption) ?_
                    rotate_left
                    · go_simp
                      try with_reducible rfl
                    try simp only [Act.put, List.getElem_toArray, List.getElem_cons_zero, List.getElem_cons_succ, List.setIfInBounds_toArray, List.set_cons_zero, List.set_cons_succ]
                    refine anyS_done (by kernel_rfl) ?_ _
                    clear hS hS0 q0 q1 q2 q3
                    gi_wp2
                    refine bodyPost_ret (results_none rfl _ _ _) rfl ?_
                    exact ⟨⟨_, rfl⟩, .inr ⟨_, _, by rw [HALL.out, List.append_assoc]; rfl, HX2.out⟩⟩
                · have hmm : s.peak.nums.take n4 = s.peak.nums := take_all s.peak (by omega)
                  have HE : Hid (D2 ++ (s.half.nums.take (n3 + 1)).flatMap (gH s (s.a.lo + n1) (s.b.lo + n2)) = D3 ++ (s.peak.nums.take n4).map (fun z => (⟨s.a.lo + n1, s.b.lo + n2, s.half.lo + n3, z⟩ : Tru))) := by show _ = _; rw [HM2.out, hmm, HD3.out, List.append_assoc]; rfl
                  have HJ2 := hid hj; have HI2 := hid hI; have HZ2 := hid hz
                  clear hmm hj hI hz
                  gi_wp2
                  go_roundw
                  case rel => exact ⟨n3 + 1, by omega, by go_num, by rw [HE.out]; exact HJ2.out, HI2.out, HZ2.out⟩
                  case measure => simp [intOf]; omega
            · have hmm : s.half.nums.take n3 = s.half.nums := take_all s.half (by omega)
              have HE : Hid (D1 ++ (s.b.nums.take (n2 + 1)).flatMap (gB s (s.a.lo + n1)) = D2 ++ (s.half.nums.take n3).flatMap (gH s (s.a.lo + n1) (s.b.lo + n2))) := by show _ = _; rw [HM1.out, hmm, HD2.out, List.append_assoc]; rfl
              have HJ2 := hid hj; have HI2 := hid hI; have HZ2 := hid hz
              clear hmm hj hI hz
              gi_wp2
              go_roundw
              case rel => exact ⟨n2 + 1, by omega, by go_num, by rw [HE.out]; exact HJ2.out, HI2.out, HZ2.out⟩
              case measure => simp [intOf]; omega
        · have hmm : s.b.nums.take n2 = s.b.nums := take_all s.b (by omega)
          have HE : Hid (D0 ++ (s.a.nums.take (n1 + 1)).flatMap (gA s) = D1 ++ (s.b.nums.take n2).flatMap (gB s (s.a.lo + n1))) := by show _ = _; rw [HM0.out, hmm, HD1.out, List.append_assoc]; rfl
          have HJ2 := hid hj; have HI2 := hid hI; have HZ2 := hid hz
          clear hmm hj hI hz
          gi_wp2
          go_roundw
          case rel => exact ⟨n1 + 1, by omega, by go_num, by rw [HE.out]; exact HJ2.out, HI2.out, HZ2.out⟩
          case measure => simp [intOf]; omega
    · have hmm : s.a.nums.take n1 = s.a.nums := take_all s.a (by omega)
      have HE : Hid (D0 ++ (s.a.nums.take n1).flatMap (gA s) = possL s) := by show _ = _; rw [hmm, HD0.out]; rfl
      have HJ2 := hid hj
      clear hmm hj hI hz
      gi_wp2
      go_end0
      exact ⟨⟨_, rfl⟩, .inl (HE.out ▸ HJ2.out)⟩
end Go.Proofs.Ytfnefkenheglhaa
