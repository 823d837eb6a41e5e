/- Above of the program. -/
import Derived.Test.YtlicijnaacdceaaProU
namespace Go.Proofs.Ytlicijnaacdceaa
open Go.RowKit

/-- The verdict from an answer. -/
def aboveV (part : Int) (a : Int × Int × Int) : Int × Int := if a.2.2 = 0 then (verdictL a.1 a.2.1 part, 0) else (0, a.2.2)
/-- The verdict, and the error. -/
def aboveR (part : Int) (r cc : Int) (l : List Int) (sm : Int) (cs : List Cnt) : Int × Int := if partE r cc l sm cs part = 0 then aboveV part (askV (rngP (shareL l) (genP (okP cs [] cc sm) l 0 []))) else (0, partE r cc l sm cs part)
theorem part_fault {r cc : Int} {l : List Int} {sm : Int} {cs : List Cnt} {part : Int} (h : partE r cc l sm cs part = 0) : faultL r cc l sm cs = 0 ∧ inB part 0 100 = true := by
  unfold partE at h
  split at h
  · rename_i hf
    refine ⟨hf, ?_⟩
    split at h
    · assumption
    · cases h
  · exact absurd h (by assumption)

set_option maxRecDepth 40000 in
set_option maxHeartbeats 8000000 in
theorem Above_any (r cc : Int) (p : Option Addr) (n c : Nat) (l : List Int) (sm : Int) (q : Option Addr) (m d : Nat) (cs : List Cnt) (part : Int) (w : World) (hl : IntsAt w p n l) (hcs : CntsAt w q m cs) (hn : n ≤ 100) (hm : m ≤ 100) :
    Calls Try.prog 21 #[.agg #[.int .i64 r, .int .i64 cc, .slice p n c, .int .i64 sm, .slice q m d], .int .i64 part] w fun e w' => e = .returned (.tuple #[.int .i64 (aboveR part r cc l sm cs).1, .int .i64 (aboveR part r cc l sm cs).2]) ∧ Below w.heap.size w w' := by
  have HC := hid (fun W (hW : Below w.heap.size w W) => part_any r cc p n c l sm q m d cs part W (hl.below hW) (hcs.below hW) hn hm)
  have HL := hid hl
  have HCS := hid hcs
  clear hl hcs
  by_cases hf : partE r cc l sm cs part = 0
  · obtain ⟨⟨lo, hi, er⟩, hR⟩ : ∃ st, askV (rngP (shareL l) (genP (okP cs [] cc sm) l 0 [])) = st := ⟨_, rfl⟩
    have HR : Hid (aboveR part r cc l sm cs = aboveV part (lo, hi, er)) := by show _ = _; rw [aboveR, if_pos hf, hR]
    have HF := hid (part_fault hf).1
    rw [hf] at HC
    clear hf
    have HASK := hid (fun W (h1 : IntsAt W p n l) (h2 : CntsAt W q m cs) => asked_share_any r cc p n c l sm q m d cs W h1 h2 hm HF.out)
    rw [hR] at HASK
    clear hR
    go_enter Try.func21, Try.ntmps21
    go_wp2_with fail
    refine (HC.out _ ?_).mono ?_
    · exact (Below.refl _ _).alloc (Nat.le_refl _) _
    rintro e w1 ⟨rfl, hb⟩
    have HB1 : Hid (Boxed1 w #[.int .i64 r, .int .i64 cc, .slice p n c, .int .i64 sm, .slice q m d] 36 w1) := Below.mono hb (by simp)
    clear hb
    go_wp2_with fail
    refine wp_region_held_drew (S := fun V => Boxed1 w #[.int .i64 r, .int .i64 cc, .slice p n c, .int .i64 sm, .slice q m d] 36 V) (by kernel_rfl) HB1.out.drew (fun hS => ?_)
    simp only [List.size_toArray, List.length_cons, List.length_nil, Nat.reduceAdd, Array.replicate_succ, Array.replicate_zero, List.push_toArray, List.nil_append, List.cons_append]
    refine wpAnyH_take (i := 1) (v := ?_) rfl (by kernel_rfl) (by kernel_rfl) (by kernel_rfl) (fun _ _ _ h => h) (Or.inl ⟨by rfl, fun V hV => ?_⟩) (by assumption) ?_
    rotate_left
    · have hs0 := Boxed1.cell hV 0 (v := .int .i64 r) rfl; have hs1 := Boxed1.cell hV 1 (v := .int .i64 cc) rfl; have hs2 := Boxed1.cell hV 2 (v := .slice p n c) rfl; have hs3 := Boxed1.cell hV 3 (v := .int .i64 sm) rfl; have hs4 := Boxed1.cell hV 4 (v := .slice q m d) rfl; go_simp
      try with_reducible rfl
    try simp only [Act.put, List.getElem_toArray, List.getElem_cons_zero, List.getElem_cons_succ, List.setIfInBounds_toArray, List.set_cons_zero, List.set_cons_succ]
    refine wpAnyH_ready (rs := [0, 6]) (by kernel_rfl) (by simp) ?_
    refine AllReadyH.cons (o := _) rfl (fun K hK => ?_) ?_
    · skip
      go_simp
      refine (shareQ_any _).mono ?_
      rintro e V0 ⟨rfl, hb0⟩
      refine hK.out _ _ (Boxed1.step hS hb0) (fun hS => ?_)
      clear hK K
      try simp only [List.setIfInBounds_toArray, List.set_cons_zero]
      refine wpAnyH_ready (rs := [2, 6]) (by kernel_rfl) (by simp) ?_
      refine AllReadyH.cons (o := _) rfl (fun K hK => ?_) ?_
      · skip
        go_simp
        refine (HASK.out _ (HL.out.below (Boxed1.below hS)) (HCS.out.below (Boxed1.below hS))).mono ?_
        rintro e V2 ⟨rfl, hb2⟩
        refine hK.out _ _ (Boxed1.step hS hb2) (fun hS => ?_)
        clear hK K
        try simp only [List.setIfInBounds_toArray, List.set_cons_zero, List.set_cons_succ]
        refine wpAnyH_take (i := 3) (v := ?_) rfl (by kernel_rfl) (by kernel_rfl) (by kernel_rfl) (fun _ _ _ h => h) (Or.inl ⟨by rfl, fun V hV => ?_⟩) (by assumption) ?_
        rotate_left
        · go_simp
          try with_reducible rfl
        try simp only [Act.put, List.getElem_toArray, List.getElem_cons_zero, List.getElem_cons_succ, List.setIfInBounds_toArray, List.set_cons_zero, List.set_cons_succ]
        refine wpAnyH_take (i := 4) (v := ?_) rfl (by kernel_rfl) (by kernel_rfl) (by kernel_rfl) (fun _ _ _ h => h) (Or.inl ⟨by rfl, fun V hV => ?_⟩) (by assumption) ?_
        rotate_left
        · go_simp
          try with_reducible rfl
        try simp only [Act.put, List.getElem_toArray, List.getElem_cons_zero, List.getElem_cons_succ, List.setIfInBounds_toArray, List.set_cons_zero, List.set_cons_succ]
        refine wpAnyH_take (i := 5) (v := ?_) rfl (by kernel_rfl) (by kernel_rfl) (by kernel_rfl) (fun _ _ _ h => h) (Or.inl ⟨by rfl, fun V hV => ?_⟩) (by assumption) ?_
        rotate_left
        · go_simp
          try with_reducible rfl
        try simp only [Act.put, List.getElem_toArray, List.getElem_cons_zero, List.getElem_cons_succ, List.setIfInBounds_toArray, List.set_cons_zero, List.set_cons_succ]
        refine wpAnyH_ready (rs := [6]) (by kernel_rfl) (by simp) ?_
        refine AllReadyH.cons (o := _) rfl (fun K hK => ?_) AllReadyH.nil
        obtain ⟨V6, hV6⟩ : ∃ V6, V2.alloc (.cells #[.int .i64 0, .int .i64 0] 62) = V6 := ⟨_, rfl⟩
        have a0 : V6.cell? ⟨V2.heap.size, 0, none⟩ = some (.int .i64 0) := by rw [← hV6]; exact cell_box V2 _ 62 0 _ rfl
        have a1 : V6.cell? ⟨V2.heap.size, 1, none⟩ = some (.int .i64 0) := by rw [← hV6]; exact cell_box V2 _ 62 1 _ rfl
        have b0 : V6.frozen? ⟨V2.heap.size, 0, none⟩ = false := by rw [← hV6]; exact frozen_new V2 _ 62 0 rfl
        have b1 : V6.frozen? ⟨V2.heap.size, 1, none⟩ = false := by rw [← hV6]; exact frozen_new V2 _ 62 1 rfl
        have hb6 : Below V2.heap.size V2 V6 := by rw [← hV6]; exact (Below.refl _ _).alloc (Nat.le_refl _) _
        have hA0 : w.heap.size + 1 ≤ V2.heap.size := Boxed1.size hS
        go_simp
        refine hK.out _ _ (Boxed1.step hS hb6) (fun hS => ?_)
        clear hK K
        try simp only [List.setIfInBounds_toArray, List.set_cons_zero, List.set_cons_succ]
        refine wpAnyH_ready (rs := [7]) (by kernel_rfl) (by simp) ?_
        refine AllReadyH.cons (o := _) rfl (fun K hK => ?_) AllReadyH.nil
        go_simp
        refine hK.out _ _ (Below.setCell (Below.setCell hS (p := ⟨V2.heap.size, 0, none⟩) hA0 _) (p := ⟨V2.heap.size, 1, none⟩) hA0 _) (fun hS => ?_)
        clear hK K
        try simp only [List.setIfInBounds_toArray, List.set_cons_zero, List.set_cons_succ]
        refine wpAnyH_take (i := 8) (v := ?_) rfl (by kernel_rfl) (by kernel_rfl) (by kernel_rfl) (fun _ _ _ h => h) (Or.inl ⟨by rfl, fun V hV => ?_⟩) (by assumption) ?_
        rotate_left
        · go_simp
          try with_reducible rfl
        try simp only [Act.put, List.getElem_toArray, List.getElem_cons_zero, List.getElem_cons_succ, List.setIfInBounds_toArray, List.set_cons_zero, List.set_cons_succ]
        refine wpAnyH_done (by kernel_rfl) ?_ _
        have ⟨q0, q1⟩ := set2 a0 a1 (.int .i64 lo) (.int .i64 hi)
        obtain ⟨W9, hW9⟩ : ∃ W9, (V6.setCell ⟨V2.heap.size, 0, none⟩ (.int .i64 lo)).setCell ⟨V2.heap.size, 1, none⟩ (.int .i64 hi) = W9 := ⟨_, rfl⟩
        rw [hW9] at q0 q1
        have HS9 : Hid (Below w.heap.size w W9) := by rw [← hW9]; exact Boxed1.below hS
        rw [hW9]
        clear a0 a1 b0 b1 hW9 hS
        by_cases he0 : er = 0
        · subst he0
          by_cases hlo : part ≤ lo
          · go_wp2
            go_ret2
            exact ⟨by rw [HR.out]; simp [aboveV, verdictL, hlo], HS9.out⟩
          · have hlo2 : ¬ part ≤ lo := hlo
            by_cases hhi : hi < part
            · go_wp2
              go_ret2
              exact ⟨by rw [HR.out]; simp [aboveV, verdictL, show ¬ part ≤ lo by omega, hhi], HS9.out⟩
            · go_wp2
              go_ret2
              exact ⟨by rw [HR.out]; simp [aboveV, verdictL, show ¬ part ≤ lo by omega, show ¬ hi < part by omega], HS9.out⟩
        · have hef : (er == 0) = false := by simp [he0]
          have HE0 := hid he0
          clear he0
          go_wp2
          go_ret2
          exact ⟨by rw [HR.out]; simp [aboveV, HE0.out], HS9.out⟩
      refine AllReadyH.cons (o := _) rfl (fun K hK => ?_) AllReadyH.nil
      obtain ⟨V6, hV6⟩ : ∃ V6, V0.alloc (.cells #[.int .i64 0, .int .i64 0] 62) = V6 := ⟨_, rfl⟩
      have a0 : V6.cell? ⟨V0.heap.size, 0, none⟩ = some (.int .i64 0) := by rw [← hV6]; exact cell_box V0 _ 62 0 _ rfl
      have a1 : V6.cell? ⟨V0.heap.size, 1, none⟩ = some (.int .i64 0) := by rw [← hV6]; exact cell_box V0 _ 62 1 _ rfl
      have b0 : V6.frozen? ⟨V0.heap.size, 0, none⟩ = false := by rw [← hV6]; exact frozen_new V0 _ 62 0 rfl
      have b1 : V6.frozen? ⟨V0.heap.size, 1, none⟩ = false := by rw [← hV6]; exact frozen_new V0 _ 62 1 rfl
      have hb6 : Below V0.heap.size V0 V6 := by rw [← hV6]; exact (Below.refl _ _).alloc (Nat.le_refl _) _
      have hA0 : w.heap.size + 1 ≤ V0.heap.size := Boxed1.size hS
      go_simp
      refine hK.out _ _ (Boxed1.step hS hb6) (fun hS => ?_)
      clear hK K
      try simp only [List.setIfInBounds_toArray, List.set_cons_zero, List.set_cons_succ]
      refine wpAnyH_ready (rs := [2]) (by kernel_rfl) (by simp) ?_
      refine AllReadyH.cons (o := _) rfl (fun K hK => ?_) AllReadyH.nil
      go_simp
      refine (HASK.out _ (HL.out.below (Boxed1.below hS)) (HCS.out.below (Boxed1.below hS))).mono ?_
      rintro e V2 ⟨rfl, hb2⟩
      have hnb : Near (fun _ => False) V6 V2 := Near.of_below hb2 (fun k h1 h2 => by omega)
      replace b0 := near_frozen (p := ⟨V0.heap.size, 0, none⟩) a0 b0 hnb (fun h => h)
      replace b1 := near_frozen (p := ⟨V0.heap.size, 1, none⟩) a1 b1 hnb (fun h => h)
      replace a0 := near_cell (p := ⟨V0.heap.size, 0, none⟩) a0 hnb (fun h => h)
      replace a1 := near_cell (p := ⟨V0.heap.size, 1, none⟩) a1 hnb (fun h => h)
      refine hK.out _ _ (Boxed1.step hS hb2) (fun hS => ?_)
      clear hK K
      try simp only [List.setIfInBounds_toArray, List.set_cons_zero, List.set_cons_succ]
      refine wpAnyH_take (i := 3) (v := ?_) rfl (by kernel_rfl) (by kernel_rfl) (by kernel_rfl) (fun _ _ _ h => h) (Or.inl ⟨by rfl, fun V hV => ?_⟩) (by assumption) ?_
      rotate_left
      · go_simp
        try with_reducible rfl
      try simp only [Act.put, List.getElem_toArray, List.getElem_cons_zero, List.getElem_cons_succ, List.setIfInBounds_toArray, List.set_cons_zero, List.set_cons_succ]
      refine wpAnyH_take (i := 4) (v := ?_) rfl (by kernel_rfl) (by kernel_rfl) (by kernel_rfl) (fun _ _ _ h => h) (Or.inl ⟨by rfl, fun V hV => ?_⟩) (by assumption) ?_
      rotate_left
      · go_simp
        try with_reducible rfl
      try simp only [Act.put, List.getElem_toArray, List.getElem_cons_zero, List.getElem_cons_succ, List.setIfInBounds_toArray, List.set_cons_zero, List.set_cons_succ]
      refine wpAnyH_take (i := 5) (v := ?_) rfl (by kernel_rfl) (by kernel_rfl) (by kernel_rfl) (fun _ _ _ h => h) (Or.inl ⟨by rfl, fun V hV => ?_⟩) (by assumption) ?_
      rotate_left
      · go_simp
        try with_reducible rfl
      try simp only [Act.put, List.getElem_toArray, List.getElem_cons_zero, List.getElem_cons_succ, List.setIfInBounds_toArray, List.set_cons_zero, List.set_cons_succ]
      refine wpAnyH_ready (rs := [7]) (by kernel_rfl) (by simp) ?_
      refine AllReadyH.cons (o := _) rfl (fun K hK => ?_) AllReadyH.nil
      go_simp
      refine hK.out _ _ (Below.setCell (Below.setCell hS (p := ⟨V0.heap.size, 0, none⟩) hA0 _) (p := ⟨V0.heap.size, 1, none⟩) hA0 _) (fun hS => ?_)
      clear hK K
      try simp only [List.setIfInBounds_toArray, List.set_cons_zero, List.set_cons_succ]
      refine wpAnyH_take (i := 8) (v := ?_) rfl (by kernel_rfl) (by kernel_rfl) (by kernel_rfl) (fun _ _ _ h => h) (Or.inl ⟨by rfl, fun V hV => ?_⟩) (by assumption) ?_
      rotate_left
      · go_simp
        try with_reducible rfl
      try simp only [Act.put, List.getElem_toArray, List.getElem_cons_zero, List.getElem_cons_succ, List.setIfInBounds_toArray, List.set_cons_zero, List.set_cons_succ]
      refine wpAnyH_done (by kernel_rfl) ?_ _
      have ⟨q0, q1⟩ := set2 a0 a1 (.int .i64 lo) (.int .i64 hi)
      obtain ⟨W9, hW9⟩ : ∃ W9, (V2.setCell ⟨V0.heap.size, 0, none⟩ (.int .i64 lo)).setCell ⟨V0.heap.size, 1, none⟩ (.int .i64 hi) = W9 := ⟨_, rfl⟩
      rw [hW9] at q0 q1
      have HS9 : Hid (Below w.heap.size w W9) := by rw [← hW9]; exact Boxed1.below hS
      rw [hW9]
      clear a0 a1 b0 b1 hW9 hS
      by_cases he0 : er = 0
      · subst he0
        by_cases hlo : part ≤ lo
        · go_wp2
          go_ret2
          exact ⟨by rw [HR.out]; simp [aboveV, verdictL, hlo], HS9.out⟩
        · have hlo2 : ¬ part ≤ lo := hlo
          by_cases hhi : hi < part
          · go_wp2
            go_ret2
            exact ⟨by rw [HR.out]; simp [aboveV, verdictL, show ¬ part ≤ lo by omega, hhi], HS9.out⟩
          · go_wp2
            go_ret2
            exact ⟨by rw [HR.out]; simp [aboveV, verdictL, show ¬ part ≤ lo by omega, show ¬ hi < part by omega], HS9.out⟩
      · have hef : (er == 0) = false := by simp [he0]
        have HE0 := hid he0
        clear he0
        go_wp2
        go_ret2
        exact ⟨by rw [HR.out]; simp [aboveV, HE0.out], HS9.out⟩
    refine AllReadyH.cons (o := _) rfl (fun K hK => ?_) AllReadyH.nil
    obtain ⟨V6, hV6⟩ : ∃ V6, (w1.alloc (.cells #[.int .i64 0, .int .i64 0] 62)).drew = V6 := ⟨_, rfl⟩
    have a0 : V6.cell? ⟨w1.heap.size, 0, none⟩ = some (.int .i64 0) := by rw [← hV6]; exact cell_box w1 _ 62 0 _ rfl
    have a1 : V6.cell? ⟨w1.heap.size, 1, none⟩ = some (.int .i64 0) := by rw [← hV6]; exact cell_box w1 _ 62 1 _ rfl
    have b0 : V6.frozen? ⟨w1.heap.size, 0, none⟩ = false := by rw [← hV6]; exact frozen_new w1 _ 62 0 rfl
    have b1 : V6.frozen? ⟨w1.heap.size, 1, none⟩ = false := by rw [← hV6]; exact frozen_new w1 _ 62 1 rfl
    have hb6 : Below w1.heap.size w1 V6 := by rw [← hV6]; exact ((Below.refl _ _).alloc (Nat.le_refl _) _).drew
    have hA0 : w.heap.size + 1 ≤ w1.heap.size := Boxed1.size HB1.out
    go_simp
    refine hK.out _ _ (Boxed1.step HB1.out hb6) (fun hS => ?_)
    clear hK K
    try simp only [List.setIfInBounds_toArray, List.set_cons_zero, List.set_cons_succ]
    refine wpAnyH_ready (rs := [0]) (by kernel_rfl) (by simp) ?_
    refine AllReadyH.cons (o := _) rfl (fun K hK => ?_) AllReadyH.nil
    go_simp
    refine (shareQ_any _).mono ?_
    rintro e V0 ⟨rfl, hb0⟩
    have hnb : Near (fun _ => False) V6 V0 := Near.of_below hb0 (fun k h1 h2 => by omega)
    replace b0 := near_frozen (p := ⟨w1.heap.size, 0, none⟩) a0 b0 hnb (fun h => h)
    replace b1 := near_frozen (p := ⟨w1.heap.size, 1, none⟩) a1 b1 hnb (fun h => h)
    replace a0 := near_cell (p := ⟨w1.heap.size, 0, none⟩) a0 hnb (fun h => h)
    replace a1 := near_cell (p := ⟨w1.heap.size, 1, none⟩) a1 hnb (fun h => h)
    refine hK.out _ _ (Boxed1.step hS hb0) (fun hS => ?_)
    clear hK K
    try simp only [List.setIfInBounds_toArray, List.set_cons_zero]
    refine wpAnyH_ready (rs := [2]) (by kernel_rfl) (by simp) ?_
    refine AllReadyH.cons (o := _) rfl (fun K hK => ?_) AllReadyH.nil
    go_simp
    refine (HASK.out _ (HL.out.below (Boxed1.below hS)) (HCS.out.below (Boxed1.below hS))).mono ?_
    rintro e V2 ⟨rfl, hb2⟩
    have hnb : Near (fun _ => False) V0 V2 := Near.of_below hb2 (fun k h1 h2 => by omega)
    replace b0 := near_frozen (p := ⟨w1.heap.size, 0, none⟩) a0 b0 hnb (fun h => h)
    replace b1 := near_frozen (p := ⟨w1.heap.size, 1, none⟩) a1 b1 hnb (fun h => h)
    replace a0 := near_cell (p := ⟨w1.heap.size, 0, none⟩) a0 hnb (fun h => h)
    replace a1 := near_cell (p := ⟨w1.heap.size, 1, none⟩) a1 hnb (fun h => h)
    refine hK.out _ _ (Boxed1.step hS hb2) (fun hS => ?_)
    clear hK K
    try simp only [List.setIfInBounds_toArray, List.set_cons_zero, List.set_cons_succ]
    refine wpAnyH_take (i := 3) (v := ?_) rfl (by kernel_rfl) (by kernel_rfl) (by kernel_rfl) (fun _ _ _ h => h) (Or.inl ⟨by rfl, fun V hV => ?_⟩) (by assumption) ?_
    rotate_left
    · go_simp
      try with_reducible rfl
    try simp only [Act.put, List.getElem_toArray, List.getElem_cons_zero, List.getElem_cons_succ, List.setIfInBounds_toArray, List.set_cons_zero, List.set_cons_succ]
    refine wpAnyH_take (i := 4) (v := ?_) rfl (by kernel_rfl) (by kernel_rfl) (by kernel_rfl) (fun _ _ _ h => h) (Or.inl ⟨by rfl, fun V hV => ?_⟩) (by assumption) ?_
    rotate_left
    · go_simp
      try with_reducible rfl
    try simp only [Act.put, List.getElem_toArray, List.getElem_cons_zero, List.getElem_cons_succ, List.setIfInBounds_toArray, List.set_cons_zero, List.set_cons_succ]
    refine wpAnyH_take (i := 5) (v := ?_) rfl (by kernel_rfl) (by kernel_rfl) (by kernel_rfl) (fun _ _ _ h => h) (Or.inl ⟨by rfl, fun V hV => ?_⟩) (by assumption) ?_
    rotate_left
    · go_simp
      try with_reducible rfl
    try simp only [Act.put, List.getElem_toArray, List.getElem_cons_zero, List.getElem_cons_succ, List.setIfInBounds_toArray, List.set_cons_zero, List.set_cons_succ]
    refine wpAnyH_ready (rs := [7]) (by kernel_rfl) (by simp) ?_
    refine AllReadyH.cons (o := _) rfl (fun K hK => ?_) AllReadyH.nil
    go_simp
    refine hK.out _ _ (Below.setCell (Below.setCell hS (p := ⟨w1.heap.size, 0, none⟩) hA0 _) (p := ⟨w1.heap.size, 1, none⟩) hA0 _) (fun hS => ?_)
    clear hK K
    try simp only [List.setIfInBounds_toArray, List.set_cons_zero, List.set_cons_succ]
    refine wpAnyH_take (i := 8) (v := ?_) rfl (by kernel_rfl) (by kernel_rfl) (by kernel_rfl) (fun _ _ _ h => h) (Or.inl ⟨by rfl, fun V hV => ?_⟩) (by assumption) ?_
    rotate_left
    · go_simp
      try with_reducible rfl
    try simp only [Act.put, List.getElem_toArray, List.getElem_cons_zero, List.getElem_cons_succ, List.setIfInBounds_toArray, List.set_cons_zero, List.set_cons_succ]
    refine wpAnyH_done (by kernel_rfl) ?_ _
    have ⟨q0, q1⟩ := set2 a0 a1 (.int .i64 lo) (.int .i64 hi)
    obtain ⟨W9, hW9⟩ : ∃ W9, (V2.setCell ⟨w1.heap.size, 0, none⟩ (.int .i64 lo)).setCell ⟨w1.heap.size, 1, none⟩ (.int .i64 hi) = W9 := ⟨_, rfl⟩
    rw [hW9] at q0 q1
    have HS9 : Hid (Below w.heap.size w W9) := by rw [← hW9]; exact Boxed1.below hS
    rw [hW9]
    clear a0 a1 b0 b1 hW9 hS
    by_cases he0 : er = 0
    · subst he0
      by_cases hlo : part ≤ lo
      · go_wp2
        go_ret2
        exact ⟨by rw [HR.out]; simp [aboveV, verdictL, hlo], HS9.out⟩
      · have hlo2 : ¬ part ≤ lo := hlo
        by_cases hhi : hi < part
        · go_wp2
          go_ret2
          exact ⟨by rw [HR.out]; simp [aboveV, verdictL, show ¬ part ≤ lo by omega, hhi], HS9.out⟩
        · go_wp2
          go_ret2
          exact ⟨by rw [HR.out]; simp [aboveV, verdictL, show ¬ part ≤ lo by omega, show ¬ hi < part by omega], HS9.out⟩
    · have hef : (er == 0) = false := by simp [he0]
      have HE0 := hid he0
      clear he0
      go_wp2
      go_ret2
      exact ⟨by rw [HR.out]; simp [aboveV, HE0.out], HS9.out⟩
  · have HR : Hid (aboveR part r cc l sm cs = (0, partE r cc l sm cs part)) := by show _ = _; rw [aboveR, if_neg hf]
    generalize partE r cc l sm cs part = fl at *
    have hfb : (fl == 0) = false := by simp [hf]
    go_enter Try.func21, Try.ntmps21
    go_wp2_with fail
    refine (HC.out _ ?_).mono ?_
    · exact (Below.refl _ _).alloc (Nat.le_refl _) _
    rintro e w1 ⟨rfl, hb⟩
    have HB1 : Hid (Boxed1 w #[.int .i64 r, .int .i64 cc, .slice p n c, .int .i64 sm, .slice q m d] 36 w1) := Below.mono hb (by simp)
    clear hb
    go_wp2_with fail
    go_ret2
    exact ⟨by rw [HR.out]; rfl, HB1.out.below⟩
end Go.Proofs.Ytlicijnaacdceaa
