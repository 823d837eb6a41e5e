/- The helper truth of the laws. No condition. -/
import Derived.Test.YtlicijnaacdceaaLawD
import Derived.Test.YtlicijnaacdceaaLawAwake
import Derived.Test.YtlicijnaacdceaaPlnD
namespace Go.Proofs.Ytlicijnaacdceaa
open Go.RowKit

/-- Hits and whether they are a truth. -/
def RetTru (w : World) (n : Nat) (h : List Int) (b : Bool) (e : Ending) (w' : World) : Prop := ∃ p c, e = .returned (.tuple #[.slice p n c, .bool b]) ∧ IntsAt w' p n h ∧ Below w.heap.size w w'

theorem retTru_mk {w w' : World} {n : Nat} {h : List Int} {b b' : Bool} {p : Option Addr} {c : Nat} (hb : b = b') (hi : IntsAt w' p n h) (hw : Below w.heap.size w w') : RetTru w n h b' (.returned (.tuple #[.slice p n c, .bool b])) w' :=
  ⟨p, c, by rw [hb], hi, hw⟩

set_option maxRecDepth 40000 in
set_option maxHeartbeats 16000000 in
theorem truthX_any (r cc : Int) (p : Option Addr) (n c : Nat) (l : List Int) (sm : Int) (q : Option Addr) (m d : Nat) (cs : List Cnt) (k : Int) (w : World) (hl : IntsAt w p n l) (hcs : CntsAt w q m cs) (hok : OkS r cc l sm cs) (hm : m ≤ 9) (hk : 0 ≤ k ∧ k ≤ 1000000) :
    Calls Try.prog 47 #[.agg #[.int .i64 r, .int .i64 cc, .slice p n c, .int .i64 sm, .slice q m d], .int .i64 k] w (RetTru w n (nthG l (k % manyL l)) (isTruthB cc l sm cs (nthG l (k % manyL l)) 0)) := by
  have HS1 := hid (SAt.start (r := r) (cc := cc) (c := c) (sm := sm) (d := d) hl hcs)
  have HOK := hid hok
  have HM9 := hid hm
  have HKB := hid hk
  have HFF := hid (field_facts hok.field)
  have HN := hid hl.1
  obtain ⟨mn, hM⟩ : ∃ a, manyL l = a := ⟨_, rfl⟩
  have hM1 : 1 ≤ mn ∧ mn ≤ 2000 := by rw [← hM]; exact ⟨many_pos _ HFF.out.2.2.2.2.2.2.2, hok.many⟩
  obtain ⟨kr, hkr⟩ : ∃ a, k % mn = a := ⟨_, rfl⟩
  have hkr1 : 0 ≤ kr ∧ kr < mn := by rw [← hkr]; exact ⟨Int.emod_nonneg _ (by omega), Int.emod_lt_of_pos _ (by omega)⟩
  have HMM := hid hM1; have HKK := hid hkr1; have HME := hid hM; have HKE := hid hkr
  rw [hM, hkr]
  clear hl hcs hok hm hk hM1 hkr1 hM hkr
  have g0 := HS1.out.c0; have g1 := HS1.out.c1; have g2 := HS1.out.c2; have g3 := HS1.out.c3; have g4 := HS1.out.c4
  go_enter Try.func47, Try.ntmps47
  go_wp2_with fail
  refine wp_region_held_drew (S := fun V => SAt w r cc p n c l sm q m d cs V) (by kernel_rfl) (HS1.out.drewN 1) (fun hS => ?_)
  simp only [List.size_toArray, List.length_cons, List.length_nil, Nat.reduceAdd, Array.replicate_succ, Array.replicate_zero, List.push_toArray, List.nil_append, List.cons_append]
  refine wpAnyH_take (i := 0) (v := ?_) rfl (by kernel_rfl) (by kernel_rfl) (by kernel_rfl) (fun _ _ _ h => h) (Or.inl ⟨by rfl, fun V hV => ?_⟩) (by assumption) ?_
  rotate_left
  · go_simp
    try with_reducible rfl
  try simp only [Act.put, List.getElem_toArray, List.getElem_cons_zero, List.setIfInBounds_toArray, List.set_cons_zero, List.set_cons_succ]
  refine wpAnyH_take (i := 1) (v := ?_) rfl (by kernel_rfl) (by kernel_rfl) (by kernel_rfl) (fun _ _ _ h => h) (Or.inl ⟨by rfl, fun V hV => ?_⟩) (by assumption) ?_
  rotate_left
  · have g0 := hV.c0; have g1 := hV.c1; have g2 := hV.c2; have g3 := hV.c3; have g4 := hV.c4; go_simp
    try with_reducible rfl
  try simp only [Act.put, List.getElem_toArray, List.getElem_cons_zero, List.getElem_cons_succ, List.setIfInBounds_toArray, List.set_cons_zero, List.set_cons_succ]
  refine wpAnyH_take (i := 2) (v := ?_) rfl (by kernel_rfl) (by kernel_rfl) (by kernel_rfl) (fun _ _ _ h => h) (Or.inl ⟨by rfl, fun V hV => ?_⟩) (by assumption) ?_
  rotate_left
  · go_simp
    try with_reducible rfl
  try simp only [Act.put, List.getElem_toArray, List.getElem_cons_zero, List.getElem_cons_succ, List.setIfInBounds_toArray, List.set_cons_zero, List.set_cons_succ]
  refine wpAnyH_take (i := 3) (v := ?_) rfl (by kernel_rfl) (by kernel_rfl) (by kernel_rfl) (fun _ _ _ h => h) (Or.inl ⟨by rfl, fun V hV => ?_⟩) (by assumption) ?_
  rotate_left
  · go_simp
    try with_reducible rfl
  try simp only [Act.put, List.getElem_toArray, List.getElem_cons_zero, List.getElem_cons_succ, List.setIfInBounds_toArray, List.set_cons_zero, List.set_cons_succ]
  refine wpAnyH_take (i := 4) (v := ?_) rfl (by kernel_rfl) (by kernel_rfl) (by kernel_rfl) (fun _ _ _ h => h) (Or.inl ⟨by rfl, fun V hV => ?_⟩) (by assumption) ?_
  rotate_left
  · have g0 := hV.c0; have g1 := hV.c1; have g2 := hV.c2; have g3 := hV.c3; have g4 := hV.c4; go_simp
    try with_reducible rfl
  try simp only [Act.put, List.getElem_toArray, List.getElem_cons_zero, List.getElem_cons_succ, List.setIfInBounds_toArray, List.set_cons_zero, List.set_cons_succ]
  refine wpAnyH_ready (rs := [5]) (by kernel_rfl) (by simp) ?_
  refine AllReadyH.cons (o := _) rfl (fun K hK => ?_) AllReadyH.nil
  go_simp
  refine (many_any r cc p n c l _ hS.ints (by have := HFF.out.2.2.2.2.2.2.1; have := HN.out; omega) HFF.out.2.2.2.2.2.2.2).mono ?_
  rintro e w81 ⟨rfl, hb⟩
  rw [HME.out]
  refine hK.out _ _ (hS.step hb) (fun hS => ?_)
  clear hK K
  try simp only [List.setIfInBounds_toArray, List.set_cons_zero, List.set_cons_succ]
  refine wpAnyH_take (i := 6) (v := ?_) rfl (by kernel_rfl) (by kernel_rfl) (by kernel_rfl) (fun _ _ _ h => h) (Or.inl ⟨by rfl, fun V hV => ?_⟩) (by assumption) ?_
  rotate_left
  · have e0 : ¬ mn = 0 := (by have := HMM.out; omega); have e1 : k.tmod mn = kr := (by rw [Int.tmod_eq_emod_of_nonneg HKB.out.1]; exact HKE.out); have e2 : IntKind.i64.wrap kr = kr := IntWalk.i64_in _ (by have := HKK.out; have := HMM.out; omega); go_simp
    try with_reducible rfl
  try simp only [Act.put, List.getElem_toArray, List.getElem_cons_zero, List.getElem_cons_succ, List.setIfInBounds_toArray, List.set_cons_zero, List.set_cons_succ]
  refine wpAnyH_ready (rs := [7]) (by kernel_rfl) (by simp) ?_
  refine AllReadyH.cons (o := _) rfl (fun K hK => ?_) AllReadyH.nil
  go_simp
  refine (nth_any r cc p n c l kr _ hS.ints (by have := HFF.out.2.2.2.2.2.2.1; have := HN.out; omega) HFF.out.2.2.2.2.2.2.2 HKK.out.1 (by have := HKK.out; have := HMM.out; omega)).mono ?_
  rintro e w82 ⟨v, rfl, ho, hb⟩
  obtain ⟨p6, c6, rfl, h6⟩ := ho.slice
  have hlen : (nthG l kr).length = n := by have h1 := (listed_iff.1 (nth_listed l HFF.out.2.2.2.2.2.2.2 kr)).1; have h2 := HN.out; omega
  rw [hlen] at h6 ⊢
  have H6 := hid h6
  clear ho h6 hlen
  refine hK.out _ _ (hS.step hb) (fun hS => ?_)
  clear hK K
  try simp only [List.setIfInBounds_toArray, List.set_cons_zero, List.set_cons_succ]
  refine wpAnyH_take (i := 8) (v := ?_) rfl (by kernel_rfl) (by kernel_rfl) (by kernel_rfl) (fun _ _ _ h => h) (Or.inl ⟨by rfl, fun V hV => ?_⟩) (by assumption) ?_
  rotate_left
  · go_simp
    try with_reducible rfl
  try simp only [Act.put, List.getElem_toArray, List.getElem_cons_zero, List.getElem_cons_succ, List.setIfInBounds_toArray, List.set_cons_zero, List.set_cons_succ]
  refine wpAnyH_done (by kernel_rfl) ?_ _
  have HS9 := hid hS
  clear hS
  have g0 := HS9.out.c0; have g1 := HS9.out.c1; have g2 := HS9.out.c2; have g3 := HS9.out.c3; have g4 := HS9.out.c4
  go_wp2_with fail
  refine (isTruth_any r cc p n c l sm q m d cs p6 c6 (nthG l kr) 0 _ HS9.out.ints (by have := HFF.out.2.2.2.2.2.2.1; have := HN.out; omega) HS9.out.cnts (by have := HM9.out; omega) H6.out HFF.out.2.2.1 HFF.out.2.2.2.1 (by decide) (by decide) HOK.out.sm0 HOK.out.sm9 (fun h => (listed_bd h HFF.out.2.2.2.2.2.2.2).2) (fun x hx => by have h1 := HOK.out.cnt x hx; have h2 := HN.out; omega)).mono ?_
  rintro e w90 ⟨rfl, hb⟩
  have HB := hid (HS9.out.step hb).below
  have H7 := hid (H6.out.below hb)
  clear hb g0 g1 g2 g3 g4
  obtain ⟨tv, htv⟩ : ∃ a, isTruthB cc l sm cs (nthG l kr) 0 = a := ⟨_, rfl⟩
  rw [htv]
  have HTV := hid htv
  clear htv
  go_wp2_with fail
  go_ret2
  exact retTru_mk HTV.out.symm H7.out HB.out
end Go.Proofs.Ytlicijnaacdceaa
