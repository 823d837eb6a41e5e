/- What all treaties pay, together: sums and bounds. No condition but valid treaties. -/
import Derived.Test.YtaioobhblfnlaaaPlH
namespace Go.Proofs.Ytaioobhblfnlaaa
open Go.RowKit

/-- What those of the first k treaties have that protect the society; those that protect a treaty. -/
def ownTo (ts : List Tre) (f : Nat → Int) : Nat → Int
  | 0 => 0
  | k + 1 => ownTo ts f k + match ts[k]? with
    | some t => if t.off < 0 then f k else 0
    | none => 0
def subTo (ts : List Tre) (f : Nat → Int) (j : Int) : Nat → Int
  | 0 => 0
  | k + 1 => subTo ts f j k + match ts[k]? with
    | some t => if t.off = j then f k else 0
    | none => 0
theorem ownTo_succ {ts : List Tre} {f : Nat → Int} {k : Nat} {t : Tre} (h : ts[k]? = some t) : ownTo ts f (k + 1) = ownTo ts f k + if t.off < 0 then f k else 0 := by rw [ownTo, h]
theorem subTo_succ {ts : List Tre} {f : Nat → Int} {j : Int} {k : Nat} {t : Tre} (h : ts[k]? = some t) : subTo ts f j (k + 1) = subTo ts f j k + if t.off = j then f k else 0 := by rw [subTo, h]
theorem ownTo_congr {ts : List Tre} {f g : Nat → Int} : ∀ k, (∀ i, i < k → f i = g i) → ownTo ts f k = ownTo ts g k
  | 0, _ => rfl
  | k + 1, h => by rw [ownTo, ownTo, ownTo_congr k fun i hi => h i (by omega), h k (by omega)]
theorem subTo_congr {ts : List Tre} {f g : Nat → Int} {j : Int} : ∀ k, (∀ i, i < k → f i = g i) → subTo ts f j k = subTo ts g j k
  | 0, _ => rfl
  | k + 1, h => by rw [subTo, subTo, subTo_congr k fun i hi => h i (by omega), h k (by omega)]
theorem ownTo_own {ts : List Tre} {f g : Nat → Int} : ∀ k, (∀ (i : Nat) t, i < k → ts[i]? = some t → t.off < 0 → f i = g i) → ownTo ts f k = ownTo ts g k
  | 0, _ => rfl
  | k + 1, h => by
    rw [ownTo, ownTo, ownTo_own k fun i t hi => h i t (by omega)]
    cases hk : ts[k]? with
    | none => rfl
    | some t =>
      by_cases ho : t.off < 0
      · simp [ho, h k t (by omega) hk ho]
      · simp [ho]
theorem ownTo_add {ts : List Tre} (f g : Nat → Int) : ∀ k, ownTo ts (fun i => f i + g i) k = ownTo ts f k + ownTo ts g k
  | 0 => rfl
  | k + 1 => by
    rw [ownTo, ownTo, ownTo, ownTo_add f g k]
    cases ts[k]? with
    | none => simp
    | some t => simp only; split <;> omega
theorem subTo_add {ts : List Tre} (f g : Nat → Int) (j : Int) : ∀ k, subTo ts (fun i => f i + g i) j k = subTo ts f j k + subTo ts g j k
  | 0 => rfl
  | k + 1 => by
    rw [subTo, subTo, subTo, subTo_add f g j k]
    cases ts[k]? with
    | none => simp
    | some t => simp only; split <;> omega
theorem ownTo_zero (ts : List Tre) : ∀ k, ownTo ts zeroF k = 0
  | 0 => rfl
  | k + 1 => by
    rw [ownTo, ownTo_zero ts k]
    cases ts[k]? with
    | none => rfl
    | some t => simp [zeroF]
theorem subTo_zero (ts : List Tre) (j : Int) : ∀ k, subTo ts zeroF j k = 0
  | 0 => rfl
  | k + 1 => by
    rw [subTo, subTo_zero ts j k]
    cases ts[k]? with
    | none => rfl
    | some t => simp [zeroF]
theorem subI_eq (f : Nat → Int) (j : Int) (ts : List Tre) : ∀ (l : List Tre) (k : Nat) (n : Int), ts.drop k = l → k ≤ ts.length → subI f j k l (n - subTo ts f j k) = n - subTo ts f j ts.length
  | [], k, n, h, hk => by
    have h9 := congrArg List.length h
    simp at h9
    have : k = ts.length := by omega
    subst this; rfl
  | t :: r, k, n, h, hk => by
    have hlt : k < ts.length := by have h9 := congrArg List.length h; simp at h9; omega
    have ht : ts[k]? = some t := by
      have h9 := List.getElem?_drop (xs := ts) (i := k) (j := 0)
      rw [h] at h9; simpa using h9.symm
    have hd : ts.drop (k + 1) = r := by rw [← List.drop_drop, h]; rfl
    rw [subI]
    have e : (if t.off = j then n - subTo ts f j k - f k else n - subTo ts f j k) = n - subTo ts f j (k + 1) := by
      rw [subTo_succ ht]; split <;> omega
    rw [e]
    exact subI_eq f j ts r (k + 1) n hd (by omega)
theorem keeps_eq (ts : List Tre) (f : Nat → Int) (j : Nat) : keepsF ts f j = f j - subTo ts f (j : Int) ts.length := by
  have h := subI_eq f (j : Int) ts ts 0 (f j) rfl (Nat.zero_le _)
  rw [subTo, Int.sub_zero] at h
  exact h

/-- For one loss: what the society keeps, and what those pay that protect it, is the loss. -/
theorem ph1_sum {ts : List Tre} (hts : OkTs ts) {pd : Nat → Int} {b : Int} (hp : PdOk ts pd b) {loss : Int} (hl : 0 ≤ loss) : ∀ k, k ≤ ts.length → (ph1 ts allT pd loss k).1 + ownTo ts (ph1 ts allT pd loss k).2 k = loss
  | 0, _ => by simp [ph1, ownTo]
  | k + 1, hk => by
    have ih := ph1_sum hts hp hl k (by omega)
    obtain ⟨t, ht⟩ := getS (show k < ts.length by omega)
    have h1 := ph1_ok hts allT hp hl k (by omega)
    rw [ph1_succ ht, ownTo_succ ht, tk1]
    by_cases ho : t.off < 0
    · rw [if_pos ⟨ho, rfl⟩, if_pos ho]
      show _ - _ + (ownTo ts (updI _ k _) k + updI _ k _ k) = loss
      rw [updI_same, ownTo_congr (g := (ph1 ts allT pd loss k).2) k fun i hi => updI_ne _ _ (by omega)]
      omega
    · rw [if_neg (by omega), if_neg ho]
      omega
theorem one_sum {ts : List Tre} (hts : OkTs ts) {pd : Nat → Int} {b : Int} (hp : PdOk ts pd b) {loss : Int} (hl : 0 ≤ loss) : keptO ts allT pd loss + ownTo ts (nowO ts allT pd loss) ts.length = loss := by
  have h := ph1_sum hts hp hl ts.length (Nat.le_refl _)
  have h2 := ph2_ok hts allT hp hl ts.length (Nat.le_refl _)
  have e : ownTo ts (nowO ts allT pd loss) ts.length = ownTo ts (ph1 ts allT pd loss ts.length).2 ts.length := ownTo_own _ fun i t _ ht ho => h2.own i t ht ho
  rw [e]; exact h
/-- For one loss: what is left of what a treaty pays. -/
theorem ph2_rest {ts : List Tre} (hts : OkTs ts) {th : Nat → Bool} {pd : Nat → Int} {b : Int} (hp : PdOk ts pd b) {loss : Int} (hl : 0 ≤ loss) :
    ∀ k, k ≤ ts.length → ∀ i : Nat, (ph2 ts pd (ph1 ts th pd loss ts.length).2 k).1 i = (ph2 ts pd (ph1 ts th pd loss ts.length).2 k).2 i - subTo ts (ph2 ts pd (ph1 ts th pd loss ts.length).2 k).2 (i : Int) k
  | 0, _, i => by simp [ph2, subTo]
  | k + 1, hk, i => by
    have ih := ph2_rest hts (th := th) hp hl k (by omega)
    obtain ⟨t, ht⟩ := getS (show k < ts.length by omega)
    have h1 := ph2_ok hts th hp hl k (by omega)
    obtain ⟨_, ho1, ho2⟩ := hts k t ht
    rw [ph2_succ ht, subTo_succ ht, tk2]
    generalize ph2 ts pd (ph1 ts th pd loss ts.length).2 k = s at *
    by_cases ho : 0 ≤ t.off
    · rw [if_pos ho]
      generalize takesT t (s.1 t.off.toNat) (pd k) = z
      have hsub : subTo ts (updI s.2 k z) (i : Int) k = subTo ts s.2 (i : Int) k := subTo_congr k fun j hj => updI_ne _ _ (by omega)
      show updI (updI s.1 t.off.toNat _) k z i = updI s.2 k z i - (subTo ts (updI s.2 k z) (i : Int) k + if t.off = (i : Int) then updI s.2 k z k else 0)
      rw [hsub, updI_same]
      by_cases e : i = k
      · subst e
        have hz : subTo ts s.2 (i : Int) i = 0 := by
          have h0 := h1.late i t ht ho (Nat.le_refl _)
          have := ih i
          omega
        rw [updI_same, updI_same, hz, if_neg (by omega)]; omega
      · rw [updI_ne _ _ e, updI_ne _ _ e]
        by_cases e2 : i = t.off.toNat
        · subst e2
          rw [updI_same, if_pos (by omega), ih]; omega
        · rw [updI_ne _ _ e2, if_neg (by omega), ih]; omega
    · rw [if_neg ho, if_neg (by omega), ih]; omega
theorem one_keeps {ts : List Tre} (hts : OkTs ts) {th : Nat → Bool} {pd : Nat → Int} {b : Int} (hp : PdOk ts pd b) {loss : Int} (hl : 0 ≤ loss) (i : Nat) : 0 ≤ nowO ts th pd loss i - subTo ts (nowO ts th pd loss) (i : Int) ts.length := by
  have h := ph2_rest hts (th := th) hp hl ts.length (Nat.le_refl _) i
  have h2 := ph2_ok hts th hp hl ts.length (Nat.le_refl _)
  have := h2.r0 i
  unfold nowO
  omega
theorem one_le {ts : List Tre} (hts : OkTs ts) {th : Nat → Bool} {pd : Nat → Int} {b : Int} (hp : PdOk ts pd b) {loss : Int} (hl : 0 ≤ loss) (i : Nat) : nowO ts th pd loss i ≤ loss := (ph2_ok hts th hp hl ts.length (Nat.le_refl _)).hi i
def sumI : List Int → Int
  | [] => 0
  | a :: l => a + sumI l
/-- All losses. -/
structure TotOk (ts : List Tre) (l : List Int) (s r : (Nat → Int) × Int) : Prop where
  own : r.2 + ownTo ts r.1 ts.length = s.2 + ownTo ts s.1 ts.length + sumI l
  keeps : ∀ i : Nat, s.1 i - subTo ts s.1 (i : Int) ts.length ≤ r.1 i - subTo ts r.1 (i : Int) ts.length
  le : ∀ i, r.1 i ≤ s.1 i + sumI l
theorem tot_all {ts : List Tre} (hts : OkTs ts) : ∀ (l : List Int) (s : (Nat → Int) × Int) (b : Int), (∀ x ∈ l, 0 ≤ x ∧ x ≤ 1000) → PdOk ts s.1 b → TotOk ts l s (totS ts allT l s)
  | [], s, b, _, _ => ⟨by simp [totS, sumI], fun i => Int.le_refl _, fun i => by simp [totS, sumI]⟩
  | n :: l, s, b, hl, hp => by
    have hn := hl n (by simp)
    have h := now_ok hts allT hp hn.1 hn.2
    have ih := tot_all hts l (fun i => s.1 i + nowO ts allT s.1 n i, s.2 + keptO ts allT s.1 n) (b + 1000) (fun x hx => hl x (by simp [hx])) h.1
    have h1 := one_sum hts hp hn.1
    rw [totS]
    refine ⟨?_, fun i => ?_, fun i => ?_⟩
    · have h2 := ih.own
      rw [ownTo_add] at h2
      rw [h2, sumI]; simp only; omega
    · have h2 := ih.keeps i
      rw [subTo_add] at h2
      have h3 := one_keeps hts (th := allT) hp hn.1 i
      simp only at h2
      omega
    · have h2 := ih.le i
      have h3 := one_le hts (th := allT) hp hn.1 i
      rw [sumI]
      simp only at h2
      omega
structure PayOk (ts : List Tre) (l : List Int) (r : (Nat → Int) × Int) : Prop where
  own : r.2 + ownTo ts r.1 ts.length = sumI l
  net : 0 ≤ r.2
  lo : ∀ i, 0 ≤ r.1 i
  hi : ∀ i, r.1 i ≤ sumI l
  keeps : ∀ i : Nat, 0 ≤ keepsF ts r.1 i
  keepsLe : ∀ i : Nat, keepsF ts r.1 i ≤ r.1 i
  cap : ∀ i t, ts[i]? = some t → t.kind ≠ 0 → r.1 i ≤ capT t
theorem subTo_nn {ts : List Tre} {f : Nat → Int} {j : Int} (h : ∀ i, 0 ≤ f i) : ∀ k, 0 ≤ subTo ts f j k
  | 0 => Int.le_refl _
  | k + 1 => by
    have := subTo_nn (ts := ts) (j := j) h k
    have := h k
    rw [subTo]
    cases ts[k]? with
    | none => simp; omega
    | some t => simp only; split <;> omega
theorem pay_all {ts : List Tre} (hts : OkTs ts) {l : List Int} (hl : ∀ x ∈ l, 0 ≤ x ∧ x ≤ 1000) : PayOk ts l (paysS ts allT l) := by
  have h := tot_all hts l (zeroF, 0) 0 hl (pd_zero hts)
  have h2 := pays_ok hts allT hl
  refine ⟨?_, h2.2.1, h2.1.lo, fun i => ?_, fun i => ?_, fun i => ?_, h2.1.cap⟩
  · have := h.own
    rw [ownTo_zero] at this
    simpa [paysS] using this
  · have := h.le i
    simpa [paysS, zeroF] using this
  · have := h.keeps i
    rw [subTo_zero] at this
    rw [keeps_eq]
    simpa [paysS, zeroF] using this
  · rw [keeps_eq]
    have := subTo_nn (ts := ts) (j := (i : Int)) h2.1.lo ts.length
    omega
end Go.Proofs.Ytaioobhblfnlaaa
