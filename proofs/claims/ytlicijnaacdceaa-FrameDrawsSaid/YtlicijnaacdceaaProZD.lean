/- What Fewest asks of a list. -/
import Derived.Test.YtlicijnaacdceaaProZC
import Derived.StillTailTactics
namespace Go.Proofs.Ytlicijnaacdceaa
open Go.RowKit

/-- A slice of hits; a slice of bools. -/
def TruAt (W : World) (p : Option Addr) (n : Nat) (L : List (List Int)) : Prop :=
  n = L.length ∧ ∀ i h, L[i]? = some h → ∃ b off, p = some ⟨b, off, none⟩ ∧ b < W.heap.size ∧ ∀ j, j < 9 → W.cell? ⟨b, off + i * 9 + j, none⟩ = some (.int .i64 (h[j]?.getD 0))
def BoolsAt (W : World) (p : Option Addr) (n : Nat) (B : List Bool) : Prop :=
  n = B.length ∧ ∀ i a, B[i]? = some a → ∃ b off, p = some ⟨b, off, none⟩ ∧ b < W.heap.size ∧ W.cell? ⟨b, off + i, none⟩ = some (.bool a)
theorem TruAt.kept {W W' : World} {p : Option Addr} {n : Nat} {L : List (List Int)} (h : TruAt W p n L) (hb : ∀ a, p = some a → 0 < n → a.block < W.heap.size → W'.heap[a.block]? = W.heap[a.block]?) (hs : W.heap.size ≤ W'.heap.size) : TruAt W' p n L := by
  refine ⟨h.1, fun i x hi => ?_⟩
  obtain ⟨b, off, hp, hlt, hc⟩ := h.2 i x hi
  have hk := hb _ hp (by rw [h.1]; exact Nat.lt_of_le_of_lt (Nat.zero_le _) (List.getElem?_eq_some_iff.1 hi).1) hlt
  exact ⟨b, off, hp, Nat.lt_of_lt_of_le hlt hs, fun j hj => (World.cell?_of_block (a := ⟨b, off + i * 9 + j, none⟩) hk).trans (hc j hj)⟩
theorem BoolsAt.kept {W W' : World} {p : Option Addr} {n : Nat} {B : List Bool} (h : BoolsAt W p n B) (hb : ∀ a, p = some a → 0 < n → a.block < W.heap.size → W'.heap[a.block]? = W.heap[a.block]?) (hs : W.heap.size ≤ W'.heap.size) : BoolsAt W' p n B := by
  refine ⟨h.1, fun i x hi => ?_⟩
  obtain ⟨b, off, hp, hlt, hc⟩ := h.2 i x hi
  have hk := hb _ hp (by rw [h.1]; exact Nat.lt_of_le_of_lt (Nat.zero_le _) (List.getElem?_eq_some_iff.1 hi).1) hlt
  exact ⟨b, off, hp, Nat.lt_of_lt_of_le hlt hs, (World.cell?_of_block (a := ⟨b, off + i, none⟩) hk).trans hc⟩

/-- What Fewest asks reads: the truths, and which are above. -/
structure DBox (W : World) (cf e2 e3 : Nat) (qt : Option Addr) (nt ct : Nat) (L : List (List Int)) (qa : Option Addr) (na ca : Nat) (B : List Bool) : Prop where
  c2 : W.cell? ⟨e2, 0, none⟩ = some (.slice qt nt ct)
  c3 : W.cell? ⟨e3, 0, none⟩ = some (.slice qa na ca)
  tru : TruAt W qt nt L
  bools : BoolsAt W qa na B
  n2 : e2 ≠ cf
  n3 : e3 ≠ cf
  nt' : ∀ a, qt = some a → 0 < nt → a.block ≠ cf
  na' : ∀ a, qa = some a → 0 < na → a.block ≠ cf
theorem DBox.near {W W' : World} {cf e2 e3 : Nat} {qt : Option Addr} {nt ct : Nat} {L : List (List Int)} {qa : Option Addr} {na ca : Nat} {B : List Bool} (h : DBox W cf e2 e3 qt nt ct L qa na ca B) (hn : Near (fun k => k = cf) W W') : DBox W' cf e2 e3 qt nt ct L qa na ca B :=
  ⟨near_cell h.c2 hn h.n2, near_cell h.c3 hn h.n3, h.tru.kept (fun a ha h0 hlt => hn.block _ hlt (h.nt' a ha h0)) hn.size, h.bools.kept (fun a ha h0 hlt => hn.block _ hlt (h.na' a ha h0)) hn.size, h.n2, h.n3, h.nt', h.na'⟩

/-- What is asked: whether two truths that look alike are both above or both not. -/
noncomputable def decG (X : List Int) : List (List Int × Bool) → (Value → Option Bool) → Bool
  | [], _ => true
  | (h, a) :: r, M => if ((M (hitsV (seenL h X))).isSome && ((M (hitsV (seenL h X))).getD false != a)) = true then false else decG X r (updM M (hitsV (seenL h X)) a)

theorem key_hitsV (h : List Int) (hb : ∀ j, j < 9 → -1000000 ≤ h[j]?.getD 0 ∧ h[j]?.getD 0 ≤ 1000000) : ∃ kl, keyOf Try.prog 116 (hitsV h) = some kl := by
  have := key_hits [h[0]?.getD 0, h[1]?.getD 0, h[2]?.getD 0, h[3]?.getD 0, h[4]?.getD 0, h[5]?.getD 0, h[6]?.getD 0, h[7]?.getD 0, h[8]?.getD 0] rfl (by
    intro a ha
    simp only [List.mem_cons, List.not_mem_nil, or_false] at ha
    rcases ha with rfl | rfl | rfl | rfl | rfl | rfl | rfl | rfl | rfl <;> exact hb _ (by omega))
  exact this
theorem Try.und118 : Try.prog.underlying 118 = some (.map 116 4) := by kernel_rfl

set_option maxRecDepth 40000 in
set_option maxHeartbeats 8000000 in
theorem fewest1_any (cf e2 e3 : Nat) (qt : Option Addr) (nt ct : Nat) (L : List (List Int)) (qa : Option Addr) (na ca : Nat) (B : List Bool) (X : List Int) (px : Option Addr) (kx cx : Nat) (W : World)
    (hB : DBox W cf e2 e3 qt nt ct L qa na ca B) (hF : Free W cf) (hP : PreAt cf W px kx X) (hk100 : kx ≤ 100) (hXb : ∀ x ∈ X, 0 ≤ x ∧ x < 9) (hLb : ∀ h ∈ L, ∀ j, j < 9 → 0 ≤ h[j]?.getD 0 ∧ h[j]?.getD 0 ≤ 9) (hlen : L.length = B.length) (hN : nt ≤ 1000000) :
    Calls Try.prog 75 #[.slice px kx cx, .pointer (some ⟨cf, 0, none⟩), .pointer (some ⟨e2, 0, none⟩), .pointer (some ⟨e3, 0, none⟩)] W (LPost cf W (if decG X (L.zip B) (fun _ => none) = true then some X else none)) := by
  obtain ⟨u, hu1, hu2⟩ := hF
  obtain ⟨W1, hW1⟩ : ∃ W1, W.setCell ⟨cf, 0, none⟩ (.slice px kx cx) = W1 := ⟨_, rfl⟩
  have hn1 : Near (fun k => k = cf) W W1 := by rw [← hW1]; exact (Near.refl (fun k => k = cf) W).setCell (p := ⟨cf, 0, none⟩) (fun _ => rfl) _
  have HF1 : Hid (W1.cell? ⟨cf, 0, none⟩ = some (.slice px kx cx)) := by rw [← hW1]; exact World.cell?_setCell_same' _ _ _ (by rw [hu1]; rfl)
  have HF2 : Hid (W1.frozen? ⟨cf, 0, none⟩ = false) := by rw [← hW1]; exact (World.frozen?_setCell _ _ _ _).trans hu2
  have hB1 := hB.near hn1
  have hcf1 : cf < W1.heap.size := World.block_lt_of_cell? _ _ HF1.out
  have HXX : Hid (∀ V, Below W1.heap.size W1 V → IntsAt V px kx X) := fun V hV => (hP.near hn1).1.below hV
  have HDB : Hid (∀ V, Below W1.heap.size W1 V → DBox V cf e2 e3 qt nt ct L qa na ca B) := fun V hV => hB1.near (Near.of_below hV (fun k h1 h2 => by omega))
  obtain ⟨W2, hW2⟩ : ∃ W2, W1.alloc (.map #[] 0) = W2 := ⟨_, rfl⟩
  have HM2 : Hid (MapIs W2 116 W1.heap.size 0 (fun _ => none)) := by rw [← hW2]; exact MapIs.made W1 116
  have HB2 : Hid (Below W1.heap.size W1 W2) := by rw [← hW2]; exact (Below.refl _ _).alloc (Nat.le_refl _) _
  have HC2 : Hid (W2.cell? ⟨e2, 0, none⟩ = some (.slice qt nt ct)) := (HDB.out W2 HB2.out).c2
  obtain ⟨tot, htot⟩ : ∃ tot, decG X (L.zip B) (fun _ => none) = tot := ⟨_, rfl⟩
  have HTOT := hid htot
  obtain ⟨res, hres⟩ : ∃ res, (if tot = true then some X else none) = res := ⟨_, rfl⟩
  rw [htot, hres]
  have HRES : Hid (Ending.returned (.bool tot) = .returned (.bool res.isSome)) := by
    show _ = _
    rw [← hres]; cases tot <;> rfl
  have HRESX : Hid (∀ Y, res = some Y → Y = X) := by
    intro Y hY
    rw [← hres] at hY
    split at hY
    · cases hY; rfl
    · cases hY
  have HN1 := hid hn1
  have HNT : Hid (nt = L.length) := hB.tru.1
  have HNA : Hid (na = B.length) := hB.bools.1
  have HLEN := hid hlen
  have HLB := hid hLb
  have HXB := hid hXb
  have c2 := HC2.out
  have hna : na = nt := by rw [HNA.out, HNT.out, hlen]
  subst hna
  have hmm := @run_makeMap Try.prog
  have HFIN : Hid (∀ V, Below W1.heap.size W1 V → LPost cf W res (.returned (.bool tot)) V) := by
    intro V hV
    have hfc := (hV.cell (World.block_lt_of_cell? _ _ HF1.out)).trans HF1.out
    refine ⟨HRES.out, HN1.out.trans (Near.of_below hV (fun k h1 h2 => by omega)), ⟨_, hfc, (hV.frozen (World.block_lt_of_cell? _ _ HF1.out)).trans HF2.out⟩, fun Y hY => ⟨px, kx, cx, hfc, ?_⟩⟩
    rw [HRESX.out Y hY]
    exact HXX.out _ hV
  clear hB hP hn1 hB1 htot hres hlen hLb hXb
  go_enter Try.func75, Try.ntmps75
  go_wp2_with fail
  go_loopw [16] (fun x wr => ∃ (i : Nat) (M : Value → Option Bool), i ≤ na ∧ x = .int .i64 i ∧ Below W1.heap.size W1 wr ∧ MapIs wr 116 W1.heap.size i M ∧ decG X ((L.zip B).drop i) M = tot) (fun x _ => na - (intOf x).toNat)
  case atStart => exact ⟨0, _, Nat.zero_le _, rfl, HB2.out, HM2.out, HTOT.out⟩
  case round =>
    clear c2
    obtain ⟨i, M, hi, rfl, hbr, hMr, hr⟩ := hrel
    have HBR := hid hbr
    have HMR := hid hMr
    have HR := hid hr
    clear hbr hMr hr
    by_cases hlt : i < na
    · obtain ⟨h, hh⟩ : ∃ h, L[i]? = some h := ⟨_, List.getElem?_eq_getElem (by have := HNT.out; omega)⟩
      obtain ⟨a, ha⟩ : ∃ a, B[i]? = some a := ⟨_, List.getElem?_eq_getElem (by have := HNA.out; omega)⟩
      have HD : Hid ((L.zip B).drop i = (h, a) :: (L.zip B).drop (i + 1)) := by
        show _ = _
        have hz : (L.zip B)[i]? = some (h, a) := by rw [List.getElem?_zip_eq_some]; exact ⟨hh, ha⟩
        obtain ⟨hl, e⟩ := List.getElem?_eq_some_iff.1 hz
        rw [List.drop_eq_getElem_cons hl, e]
      have hhb := HLB.out h (List.mem_of_getElem? hh)
      obtain ⟨bt, ot, rfl, hbt, hct⟩ := (HDB.out wr HBR.out).tru.2 i h hh
      have hd := hct
      have y0 := hct 0 (by omega)
      rw [Nat.add_zero] at y0
      have y1 := hct 1 (by omega)
      have y2 := hct 2 (by omega)
      have y3 := hct 3 (by omega)
      have y4 := hct 4 (by omega)
      have y5 := hct 5 (by omega)
      have y6 := hct 6 (by omega)
      have y7 := hct 7 (by omega)
      have y8 := hct 8 (by omega)
      obtain ⟨sx, hsx⟩ : ∃ sx, seenL h X = sx := ⟨_, rfl⟩
      obtain ⟨kl, hkl⟩ := key_hitsV sx (by
        intro j hj
        rw [← hsx, seenL_get _ _ _ hj]
        have := hhb j hj
        split <;> omega)
      have HSEEN := hid (fun V (hV : Below W1.heap.size W1 V) => seen_any h X px kx cx V (HXX.out V hV) hk100 HXB.out)
      rw [hsx] at HSEEN
      have HSX := hid hsx
      have HKL := hid hkl
      obtain ⟨W5, hW5⟩ : ∃ W5, wr.alloc (.cells #[.int .i64 (h[0]?.getD 0), .int .i64 (h[1]?.getD 0), .int .i64 (h[2]?.getD 0), .int .i64 (h[3]?.getD 0), .int .i64 (h[4]?.getD 0), .int .i64 (h[5]?.getD 0), .int .i64 (h[6]?.getD 0), .int .i64 (h[7]?.getD 0), .int .i64 (h[8]?.getD 0)] 116) = W5 := ⟨_, rfl⟩
      have hx5 : HitsAt W5 wr.heap.size h := by rw [← hW5]; exact hitsAt_box wr h 116
      have hb5 : Below wr.heap.size wr W5 := by rw [← hW5]; exact (Below.refl _ _).alloc (Nat.le_refl _) _
      have HB5 : Hid (Below W1.heap.size W1 W5) := HBR.out.trans (hb5.mono HBR.out.size)
      have HM5 := hid (HMR.out.below hb5)
      have q0 := hx5 0 (by omega)
      have q1 := hx5 1 (by omega)
      have q2 := hx5 2 (by omega)
      have q3 := hx5 3 (by omega)
      have q4 := hx5 4 (by omega)
      have q5 := hx5 5 (by omega)
      have q6 := hx5 6 (by omega)
      have q7 := hx5 7 (by omega)
      have q8 := hx5 8 (by omega)
      have HA := hid ha
      have hi6 : (i : Int) ≤ 1000000 := by omega
      clear hh ha hhb hct hd hsx hkl hx5 hb5
      unfold hitsV at HSEEN
      go_wp2_with fail
      refine (HSEEN.out _ HB5.out).mono ?_
      rintro e W6 ⟨rfl, hb6⟩
      obtain ⟨W7, hW7⟩ : ∃ W7, W6.alloc (.cells #[.int .i64 (sx[0]?.getD 0), .int .i64 (sx[1]?.getD 0), .int .i64 (sx[2]?.getD 0), .int .i64 (sx[3]?.getD 0), .int .i64 (sx[4]?.getD 0), .int .i64 (sx[5]?.getD 0), .int .i64 (sx[6]?.getD 0), .int .i64 (sx[7]?.getD 0), .int .i64 (sx[8]?.getD 0)] 116) = W7 := ⟨_, rfl⟩
      have hx7 : HitsAt W7 W6.heap.size sx := by rw [← hW7]; exact hitsAt_box W6 sx 116
      have hb7 : Below W6.heap.size W6 W7 := by rw [← hW7]; exact (Below.refl _ _).alloc (Nat.le_refl _) _
      have HB7 : Hid (Below W1.heap.size W1 W7) := (HB5.out.trans (hb6.mono HB5.out.size)).trans (hb7.mono (Nat.le_trans HB5.out.size hb6.size))
      have HM7 := hid ((HM5.out.below hb6).below hb7)
      have hlook : (Instr.lookup 118 (.map (some W1.heap.size)) (hitsV sx) true).run Try.prog W7 = .ok (.tuple #[.bool ((M (hitsV sx)).getD false), .bool (M (hitsV sx)).isSome]) W7 := HM7.out.look Try.key116 Try.und118 HKL.out
      have c3 := (HDB.out W7 HB7.out).c3
      obtain ⟨ba, oa, rfl, hba, hca⟩ := (HDB.out W7 HB7.out).bools.2 i a HA.out
      clear q0 q1 q2 q3 q4 q5 q6 q7 q8 y0 y1 y2 y3 y4 y5 y6 y7 y8
      have q0 := hx7 0 (by omega)
      have q1 := hx7 1 (by omega)
      have q2 := hx7 2 (by omega)
      have q3 := hx7 3 (by omega)
      have q4 := hx7 4 (by omega)
      have q5 := hx7 5 (by omega)
      have q6 := hx7 6 (by omega)
      have q7 := hx7 7 (by omega)
      have q8 := hx7 8 (by omega)
      obtain ⟨mv, hmv⟩ : ∃ mv, M (hitsV sx) = mv := ⟨_, rfl⟩
      rw [hmv] at hlook
      have HMV := hid hmv
      unfold hitsV at hlook
      clear hmv hx7 hb6 hb7
      have HGO : Hid (decG X ((L.zip B).drop i) M = if (mv.isSome && (mv.getD false != a)) = true then false else decG X ((L.zip B).drop (i + 1)) (updM M (hitsV sx) a)) := by
        show _ = _
        rw [HD.out, decG, HSX.out, HMV.out]
      rcases mv with _ | v
      · simp only [Option.getD_none, Option.isSome_none] at hlook
        have HNEXT : Hid (decG X ((L.zip B).drop (i + 1)) (updM M (hitsV sx) a) = tot) := by
          show _ = _
          rw [← HR.out, HGO.out]; simp
        have HN := hid (show i < maxLen by unfold maxLen; omega)
        go_wp2_with fail
        go_still_tail 6, (by kernel_rfl)
        obtain ⟨W8, hrun, hM8, hg⟩ := (HM7.out.below (Below.drew (Below.refl _ _))).put Try.key116 Try.und118 HN.out HKL.out a
        have HM8 := hid hM8
        have HB8 : Hid (Below W1.heap.size W1 W8) := HB7.out.drew.grown hg HB7.out.size (fun k hk => by cases hk; exact Nat.le_refl _)
        clear hM8 hg
        unfold hitsV at hrun
        refine wpList_put rfl _ _ _ _ rfl W1.heap.size _ _ rfl rfl rfl hrun ?_
        go_wp2_with fail
        go_roundw
        case rel => exact ⟨i + 1, _, by omega, by go_num, HB8.out, HM8.out, HNEXT.out⟩
        case measure => simp [intOf]; omega
      · simp only [Option.getD_some, Option.isSome_some] at hlook
        cases v <;> cases a
        · have HNEXT : Hid (decG X ((L.zip B).drop (i + 1)) (updM M (hitsV sx) false) = tot) := by
            show _ = _
            rw [← HR.out, HGO.out]; simp
          have HN := hid (show i < maxLen by unfold maxLen; omega)
          go_wp2_with fail
          go_still_tail 6, (by kernel_rfl)
          obtain ⟨W8, hrun, hM8, hg⟩ := (HM7.out.below (Below.drew (Below.refl _ _))).put Try.key116 Try.und118 HN.out HKL.out false
          have HM8 := hid hM8
          have HB8 : Hid (Below W1.heap.size W1 W8) := HB7.out.drew.grown hg HB7.out.size (fun k hk => by cases hk; exact Nat.le_refl _)
          clear hM8 hg
          unfold hitsV at hrun
          refine wpList_put rfl _ _ _ _ rfl W1.heap.size _ _ rfl rfl rfl hrun ?_
          go_wp2_with fail
          go_roundw
          case rel => exact ⟨i + 1, _, by omega, by go_num, HB8.out, HM8.out, HNEXT.out⟩
          case measure => simp [intOf]; omega
        · have HT : Hid (tot = false) := by
            show _ = _
            rw [← HR.out, HGO.out]; simp
          go_wp2_with fail
          go_ret
          have := HFIN.out _ HB7.out
          rw [HT.out] at this
          exact this
        · have HT : Hid (tot = false) := by
            show _ = _
            rw [← HR.out, HGO.out]; simp
          go_wp2_with fail
          go_ret
          have := HFIN.out _ HB7.out
          rw [HT.out] at this
          exact this
        · have HNEXT : Hid (decG X ((L.zip B).drop (i + 1)) (updM M (hitsV sx) true) = tot) := by
            show _ = _
            rw [← HR.out, HGO.out]; simp
          have HN := hid (show i < maxLen by unfold maxLen; omega)
          go_wp2_with fail
          go_still_tail 6, (by kernel_rfl)
          obtain ⟨W8, hrun, hM8, hg⟩ := (HM7.out.below (Below.drew (Below.refl _ _))).put Try.key116 Try.und118 HN.out HKL.out true
          have HM8 := hid hM8
          have HB8 : Hid (Below W1.heap.size W1 W8) := HB7.out.drew.grown hg HB7.out.size (fun k hk => by cases hk; exact Nat.le_refl _)
          clear hM8 hg
          unfold hitsV at hrun
          refine wpList_put rfl _ _ _ _ rfl W1.heap.size _ _ rfl rfl rfl hrun ?_
          go_wp2_with fail
          go_roundw
          case rel => exact ⟨i + 1, _, by omega, by go_num, HB8.out, HM8.out, HNEXT.out⟩
          case measure => simp [intOf]; omega
    · have HT : Hid (tot = true) := by
        show _ = _
        rw [← HR.out, List.drop_of_length_le (by rw [List.length_zip, HLEN.out, Nat.min_self]; have := HNA.out; omega)]
        rfl
      go_wp2_with fail
      go_ret
      have := HFIN.out _ HBR.out
      rw [HT.out] at this
      exact this
end Go.Proofs.Ytlicijnaacdceaa
