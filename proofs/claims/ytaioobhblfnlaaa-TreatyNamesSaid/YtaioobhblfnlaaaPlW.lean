/- More reports, wider ranges, some reports, other treaties, a quota alone. No condition but programmes without an error. -/
import Derived.Test.YtaioobhblfnlaaaPlU
namespace Go.Proofs.Ytaioobhblfnlaaa
open Go.RowKit

/-- Fewer truths: ranges that are not wider. -/
theorem bnd_sub {α : Type} {g : α → Int} {L K : List α} (h : ∀ a ∈ L, a ∈ K) {r : Rng} (hr : bndO g L = some r) : ∃ q, bndO g K = some q ∧ q.lo ≤ r.lo ∧ r.hi ≤ q.hi := by
  have hb := bndO_eq hr
  have hne : K ≠ [] := by
    intro e
    obtain ⟨a, ha, _⟩ := hb.lo
    have := h a ha
    rw [e] at this; simp at this
  obtain ⟨q, hq, hk⟩ := bndO_some g hne
  obtain ⟨a, ha, e1⟩ := hb.lo
  obtain ⟨b, hb1, e2⟩ := hb.hi
  exact ⟨q, hq, by rw [← e1]; exact (hk.all _ ⟨a, h a ha, rfl⟩).1, by rw [← e2]; exact (hk.all _ ⟨b, h b hb1, rfl⟩).2⟩
theorem poss_sub {p x : Prg} {th th' : Nat → Bool} {o o' : List Int} (h : ∀ a ∈ truO p th o, a ∈ truO x th' o') (hp : possO p th o = true) : possO x th' o' = true := by
  rw [poss_iff_ne] at hp ⊢
  intro e
  obtain ⟨a, ha⟩ := List.exists_mem_of_ne_nil _ hp
  have := h a ha
  rw [e] at this; simp at this
/-- One more report. -/
theorem more_get {p : Prg} {m : Rep} {i : Nat} {x : Rep} : (p.reps ++ [m])[i]? = some x ↔ p.reps[i]? = some x ∨ (i = p.reps.length ∧ m = x) := by
  rw [List.getElem?_append]
  by_cases h : i < p.reps.length
  · rw [if_pos h]
    constructor
    · exact .inl
    · rintro (h1 | ⟨h1, _⟩)
      · exact h1
      · omega
  · rw [if_neg h]
    have h2 : p.reps[i]? = none := List.getElem?_eq_none (by omega)
    rw [h2]
    by_cases e : i = p.reps.length
    · subst e; simp
    · have : ([m] : List Rep)[i - p.reps.length]? = none := List.getElem?_eq_none (by simp; omega)
      rw [this]; simp [e]
def addR (p : Prg) (m : Rep) : Prg := { p with reps := p.reps ++ [m] }
theorem more_tru {p : Prg} {m : Rep} : ∀ a ∈ truO (addR p m) allT [], a ∈ truO p allT [] := by
  intro a ha
  obtain ⟨l, hl, e, hr⟩ := mem_truO.1 ha
  refine mem_truO.2 ⟨l, hl, e, rightO_iff.2 fun i x hx ho => rightO_iff.1 hr i x (more_get.2 (.inl hx)) ho⟩
theorem incr_take {b : Nat} {X : List Int} (h : IncrG (b + 1) 0 X) : IncrG b 0 (X.filter fun a => decide (a < (b : Int))) := by
  have key : ∀ (X : List Int) (s : Int), IncrG (b + 1) s X → IncrG b s (X.filter fun a => decide (a < (b : Int))) := by
    intro X
    induction X with
    | nil => intro s _; trivial
    | cons a l ih =>
      rintro s ⟨h1, h2, h3⟩
      rw [List.filter_cons]
      split
      · rename_i hc
        simp at hc
        exact ⟨h1, hc, ih _ h3⟩
      · rename_i hc
        simp at hc
        have : l = [] := by
          cases l with
          | nil => rfl
          | cons c k => have := h3.1; have := h3.2.1; omega
        subst this; trivial
  exact key X 0 h
theorem short_len {x y : List Int} (h : shorterB x y = false) : y.length ≤ x.length := by
  unfold shorterB at h
  simp only [Bool.or_eq_false_iff, decide_eq_false_iff_not] at h
  omega
theorem more_len {p : Prg} {m : Rep} (ok : OkP p) (okx : OkP (addR p m)) : (leaveP p).length ≤ (leaveP (addR p m)).length ∧ (leaveP (addR p m)).length ≤ (leaveP p).length + 1 := by
  have hp := leave_first ok
  have hx := leave_first okx
  have hlen : (addR p m).reps.length = p.reps.length + 1 := by simp [addR]
  rw [hlen] at hx
  constructor
  · have h1 : leaveF p ((leaveP (addR p m)).filter fun a => decide (a < (p.reps.length : Int))) = true := by
      obtain ⟨l, hl, h⟩ := possO_iff.1 hx.2.1
      refine possO_iff.2 ⟨l, hl, fun i x hxi ho => h i x (more_get.2 (.inl hxi)) fun hm => ho ?_⟩
      have := (List.getElem?_eq_some_iff.1 hxi).1
      exact List.mem_filter.2 ⟨hm, by simpa using this⟩
    have h2 := short_len (hp.2.2 _ (incr_take hx.1) h1)
    exact Nat.le_trans h2 (List.length_filter_le _ _)
  · have h1 : leaveF (addR p m) (leaveP p ++ [(p.reps.length : Int)]) = true := by
      obtain ⟨l, hl, h⟩ := possO_iff.1 hp.2.1
      refine possO_iff.2 ⟨l, hl, fun i x hxi ho => ?_⟩
      rcases more_get.1 hxi with h3 | ⟨h3, _⟩
      · exact h i x h3 fun hm => ho (by simp [hm])
      · exact absurd (by simp [h3]) ho
    have h2 := short_len (hx.2.2 _ (incr_snoc (by omega) hp.1) h1)
    simpa using h2

/-- A wider range. -/
def Rng.inn (a b : Rng) : Prop := b.lo ≤ a.lo ∧ a.hi ≤ b.hi
structure WiderP (p x : Prg) : Prop where
  ts : x.ts = p.ts
  reserve : x.reserve = p.reserve
  ln : x.losses.length = p.losses.length
  loss : ∀ (i : Nat) a b, p.losses[i]? = some a → x.losses[i]? = some b → a.inn b
  rn : x.reps.length = p.reps.length
  rep : ∀ (i : Nat) a b, p.reps[i]? = some a → x.reps[i]? = some b → b.tr = a.tr ∧ a.paid.inn b.paid
theorem listed_wider : ∀ {ls xs : List Rng} {l : List Int}, xs.length = ls.length → (∀ (i : Nat) a b, ls[i]? = some a → xs[i]? = some b → a.inn b) → listedB ls l = true → listedB xs l = true
  | [], [], l, _, _, h => h
  | [], x :: xs, l, hn, _, _ => by simp at hn
  | r :: ls, [], l, hn, _, _ => by simp at hn
  | r :: ls, x :: xs, [], _, _, h => by simp [listedB] at h
  | r :: ls, x :: xs, y :: l, hn, hi, h => by
    rw [listedB, Bool.and_eq_true, inB_iff] at h ⊢
    have h0 := hi 0 r x rfl rfl
    unfold Rng.inn at h0
    exact ⟨by omega, listed_wider (by simpa using hn) (fun i a b ha hb => hi (i + 1) a b (by simpa using ha) (by simpa using hb)) h.2⟩
theorem right_wider {f : Nat → Int} {a b : Rep} (h1 : b.tr = a.tr) (h2 : a.paid.inn b.paid) (h : rightB f a = true) : rightB f b = true := by
  unfold rightB at *
  unfold Rng.inn at h2
  rw [inB_iff] at *
  rw [h1]; omega
theorem WiderP.tru {p x : Prg} (h : WiderP p x) (th : Nat → Bool) (out : List Int) : ∀ a ∈ truO p th out, a ∈ truO x th out := by
  intro a ha
  obtain ⟨l, hl, e, hr⟩ := mem_truO.1 ha
  refine mem_truO.2 ⟨l, listed_wider h.ln h.loss hl, by rw [h.ts]; exact e, rightO_iff.2 fun i b hb ho => ?_⟩
  obtain ⟨c, hc⟩ := getS (l := p.reps) (k := i) (by have := (List.getElem?_eq_some_iff.1 hb).1; have := h.rn; omega)
  obtain ⟨h1, h2⟩ := h.rep i c b hc hb
  exact right_wider h1 h2 (rightO_iff.1 hr i c hc ho)
theorem WiderP.len {p x : Prg} (h : WiderP p x) (ok : OkP p) (okx : OkP x) : (leaveP x).length ≤ (leaveP p).length := by
  have hp := leave_first ok
  have hx := leave_first okx
  rw [h.rn] at hx
  exact short_len (hx.2.2 _ hp.1 (poss_sub (h.tru allT _) hp.2.1))
theorem WiderP.kept {p x : Prg} (h : WiderP p x) (ok : OkP p) (okx : OkP x) (X : List Int) : (keptX x X).lo ≤ (keptX p X).lo ∧ (keptX p X).hi ≤ (keptX x X).hi := by
  have a := kept_isBd ok (thL X)
  have b := kept_isBd okx (thL X)
  obtain ⟨l, hl, e⟩ := a.lo
  obtain ⟨k, hk, e2⟩ := a.hi
  have h1 := (b.all _ ⟨l, listed_wider h.ln h.loss hl, rfl⟩).1
  have h2 := (b.all _ ⟨k, listed_wider h.ln h.loss hk, rfl⟩).2
  rw [h.ts] at h1 h2
  rw [e] at h1; rw [e2] at h2
  exact ⟨h1, h2⟩

/-- Some of the reports, by bits. -/
def someR (reps : List Rep) (m : Int) (k : Nat) : List Rep := match k with
  | 0 => []
  | k + 1 => someR reps m k ++ (if bitB m k = true then (match reps[k]? with
    | some x => [x]
    | none => []) else [])
theorem mem_someR {reps : List Rep} {m : Int} {x : Rep} : ∀ {k : Nat}, x ∈ someR reps m k ↔ ∃ i : Nat, i < k ∧ bitB m i = true ∧ reps[i]? = some x
  | 0 => by simp [someR]
  | k + 1 => by
    rw [someR, List.mem_append, mem_someR]
    constructor
    · rintro (⟨i, h1, h2, h3⟩ | h)
      · exact ⟨i, by omega, h2, h3⟩
      · split at h
        · rename_i hb
          cases hk : reps[k]? with
          | none => rw [hk] at h; simp at h
          | some y => rw [hk] at h; simp at h; subst h; exact ⟨k, by omega, hb, hk⟩
        · simp at h
    · rintro ⟨i, h1, h2, h3⟩
      by_cases e : i = k
      · subst e; right; rw [if_pos h2, h3]; simp
      · left; exact ⟨i, by omega, h2, h3⟩
def someP (p : Prg) (m : Int) : Prg := { p with reps := someR p.reps m p.reps.length }
theorem someR_len (reps : List Rep) (m : Int) : ∀ k, (someR reps m k).length ≤ k
  | 0 => by simp [someR]
  | k + 1 => by
    have := someR_len reps m k
    rw [someR, List.length_append]
    split
    · split <;> simp <;> omega
    · simp; omega
theorem OkP.some {p : Prg} (ok : OkP p) (m : Int) : OkP (someP p m) := ⟨ok.n4, ok.m5, by have := someR_len p.reps m p.reps.length; have := ok.k5; show (someR p.reps m p.reps.length).length ≤ 5; omega, ok.r0, ok.r9, ok.loss, ok.tre, fun r hr => by
  obtain ⟨i, _, _, h⟩ := mem_someR.1 (show r ∈ someR p.reps m p.reps.length from hr)
  exact ok.rep r (List.mem_of_getElem? h), ok.many⟩
theorem some_poss {p : Prg} {m : Int} : possO (someP p m) allT [] = true ↔ ∃ l, listedB p.losses l = true ∧ ∀ (i : Nat) x, p.reps[i]? = some x → bitB m i = true → rightB (payA p l).1 x = true := by
  rw [possO_iff]
  refine exists_congr fun l => and_congr Iff.rfl ?_
  constructor
  · intro h i x hx hb
    have hm : x ∈ (someP p m).reps := mem_someR.2 ⟨i, (List.getElem?_eq_some_iff.1 hx).1, hb, hx⟩
    obtain ⟨j, hj⟩ := List.mem_iff_getElem?.1 hm
    exact h j x hj (by simp)
  · intro h i x hx _
    obtain ⟨j, _, hb, hj⟩ := mem_someR.1 (List.mem_of_getElem? hx)
    exact h j x hj hb
theorem some_out {p : Prg} {M : Nat} {out : List Int} (hb : ∀ i, i < p.reps.length → (M.testBit i = true ↔ (i : Int) ∉ out)) : possO (someP p (M : Int)) allT [] = possO p allT out := by
  rw [Bool.eq_iff_iff, some_poss, possO_iff]
  refine exists_congr fun l => and_congr Iff.rfl (forall_congr' fun i => forall_congr' fun x => ?_)
  rw [bitB_testBit]
  constructor
  · intro h hx ho
    exact h hx ((hb i (List.getElem?_eq_some_iff.1 hx).1).2 ho)
  · intro h hx ho
    exact h hx ((hb i (List.getElem?_eq_some_iff.1 hx).1).1 ho)
theorem some_low {p : Prg} {k : Nat} : possO (someP p ((2 ^ k - 1 : Nat) : Int)) allT [] = possO { p with reps := p.reps.take k } allT [] := by
  rw [Bool.eq_iff_iff, some_poss, possO_iff]
  refine exists_congr fun l => and_congr Iff.rfl (forall_congr' fun i => forall_congr' fun x => ?_)
  rw [low_bit]
  show _ ↔ ((p.reps.take k)[i]? = some x → _)
  rw [List.getElem?_take]
  by_cases h : i < k
  · simp [h, payA]
  · simp [h]
/-- The first wrong report: what it says. -/
theorem firstG_spec (f : Nat → Bool) : ∀ (m k : Nat), (firstG f k m = -1 ∧ ∀ i, k ≤ i → i < k + m → f i = true) ∨ ∃ j : Nat, firstG f k m = (j : Int) ∧ k ≤ j ∧ j < k + m ∧ f j = false ∧ ∀ i, k ≤ i → i < j → f i = true
  | 0, k => .inl ⟨rfl, fun i h1 h2 => by omega⟩
  | m + 1, k => by
    rw [firstG]
    cases hf : f k
    · rw [if_neg (by simp)]
      exact .inr ⟨k, rfl, Nat.le_refl _, by omega, hf, fun i h1 h2 => by omega⟩
    · rw [if_pos rfl]
      rcases firstG_spec f m (k + 1) with ⟨h1, h2⟩ | ⟨j, h1, h2, h3, h4, h5⟩
      · refine .inl ⟨h1, fun i a b => ?_⟩
        by_cases e : i = k
        · subst e; exact hf
        · exact h2 i (by omega) (by omega)
      · refine .inr ⟨j, h1, by omega, by omega, h4, fun i a b => ?_⟩
        by_cases e : i = k
        · subst e; exact hf
        · exact h5 i (by omega) (by omega)
theorem poss_none {p : Prg} (ok : OkP p) : possO { p with reps := [] } allT [] = true := by
  obtain ⟨l, hl⟩ := lists_ne ok
  exact possO_iff.2 ⟨l, hl, by simp⟩
theorem first_spec {p : Prg} (ok : OkP p) : (firstP p = -1 ∧ possO p allT [] = true) ∨ ∃ j : Nat, firstP p = (j : Int) ∧ j < p.reps.length ∧ possO { p with reps := p.reps.take j } allT [] = true ∧ possO { p with reps := p.reps.take (j + 1) } allT [] = false := by
  rcases firstG_spec (fun j => possO { p with reps := p.reps.take (j + 1) } allT []) p.reps.length 0 with ⟨h1, h2⟩ | ⟨j, h1, _, h3, h4, h5⟩
  · refine .inl ⟨h1, ?_⟩
    by_cases h0 : p.reps.length = 0
    · have e : p.reps = [] := List.length_eq_zero_iff.1 h0
      have := poss_none ok
      rw [← e] at this; exact this
    · have := h2 (p.reps.length - 1) (by omega) (by omega)
      rw [show p.reps.length - 1 + 1 = p.reps.length by omega, List.take_length] at this
      exact this
  · refine .inr ⟨j, h1, by omega, ?_, h4⟩
    by_cases h0 : j = 0
    · subst h0; exact poss_none ok
    · have := h5 (j - 1) (by omega) (by omega)
      rw [show j - 1 + 1 = j by omega] at this
      exact this

/-- Treaties that protect other treaties do not count for what the society keeps. -/
def SameOwn (ts us : List Tre) : Prop := us.length = ts.length ∧ ∀ (i : Nat) t u, ts[i]? = some t → us[i]? = some u → (t.off < 0 ↔ u.off < 0) ∧ (t.off < 0 → u = t)
theorem ph1_same {ts us : List Tre} (h : SameOwn ts us) {pd qd : Nat → Int} (hpd : ∀ (i : Nat) t, ts[i]? = some t → t.off < 0 → pd i = qd i) (th : Nat → Bool) (loss : Int) : ∀ k, ph1 us th qd loss k = ph1 ts th pd loss k
  | 0 => rfl
  | k + 1 => by
    have ih := ph1_same h hpd th loss k
    cases hk : ts[k]? with
    | none =>
      have hu : us[k]? = none := List.getElem?_eq_none (by rw [h.1]; exact List.getElem?_eq_none_iff.1 hk)
      rw [ph1, ph1, hk, hu]; exact ih
    | some t =>
      obtain ⟨u, hu⟩ := getS (l := us) (k := k) (by rw [h.1]; exact (List.getElem?_eq_some_iff.1 hk).1)
      obtain ⟨h1, h2⟩ := h.2 k t u hk hu
      rw [ph1_succ hk, ph1_succ hu, ih, tk1, tk1]
      by_cases ho : t.off < 0
      · rw [h2 ho, hpd k t hk ho]
      · rw [if_neg (fun hh => ho (h1.2 hh.1)), if_neg (fun hh => ho hh.1)]
theorem tot_same {ts us : List Tre} (hts : OkTs ts) (hus : OkTs us) (h : SameOwn ts us) (th : Nat → Bool) : ∀ (l : List Int) (s r : (Nat → Int) × Int) (b : Int), (∀ x ∈ l, 0 ≤ x ∧ x ≤ 1000) → PdOk ts s.1 b → PdOk us r.1 b → s.2 = r.2 → (∀ (i : Nat) t, ts[i]? = some t → t.off < 0 → s.1 i = r.1 i) →
    (totS ts th l s).2 = (totS us th l r).2 ∧ ∀ (i : Nat) t, ts[i]? = some t → t.off < 0 → (totS ts th l s).1 i = (totS us th l r).1 i
  | [], s, r, b, _, _, _, h1, h2 => ⟨h1, h2⟩
  | n :: l, s, r, b, hl, hp, hq, h1, h2 => by
    have hn := hl n (by simp)
    have a := now_ok hts th hp hn.1 hn.2
    have c := now_ok hus th hq hn.1 hn.2
    rw [totS, totS]
    have e := ph1_same h h2 th n
    refine tot_same hts hus h th l _ _ (b + 1000) (fun x hx => hl x (by simp [hx])) a.1 c.1 ?_ ?_
    · show s.2 + keptO ts th s.1 n = r.2 + keptO us th r.1 n
      unfold keptO
      rw [h.1, e, h1]
    · intro i t ht ho
      show s.1 i + nowO ts th s.1 n i = r.1 i + nowO us th r.1 n i
      obtain ⟨u, hu⟩ := getS (l := us) (k := i) (by rw [h.1]; exact (List.getElem?_eq_some_iff.1 ht).1)
      have k1 := (ph2_ok hts th hp hn.1 ts.length (Nat.le_refl _)).own i t ht ho
      have k2 := (ph2_ok hus th hq hn.1 us.length (Nat.le_refl _)).own i u hu (((h.2 i t u ht hu).1).1 ho)
      unfold nowO
      rw [k1, k2, h.1, e, h2 i t ht ho]
theorem pays_same {ts us : List Tre} (hts : OkTs ts) (hus : OkTs us) (h : SameOwn ts us) (th : Nat → Bool) {l : List Int} (hl : ∀ x ∈ l, 0 ≤ x ∧ x ≤ 1000) :
    (paysS ts th l).2 = (paysS us th l).2 ∧ ∀ (i : Nat) t, ts[i]? = some t → t.off < 0 → (paysS ts th l).1 i = (paysS us th l).1 i :=
  tot_same hts hus h th l _ _ 0 hl (pd_zero hts) (pd_zero hus) rfl (fun _ _ _ _ => rfl)
/-- A Quota alone. -/
def quoT (n : Int) : Tre := ⟨0, n, 0, 0, 0, 0, -1⟩
def dueL (n : Int) : List Int → Int
  | [] => 0
  | a :: l => a * n / 100 + dueL n l
def keptL (n : Int) : List Int → Int
  | [] => 0
  | a :: l => a - a * n / 100 + keptL n l
theorem quo_one (n : Int) (pd : Nat → Int) (a : Int) : nowO [quoT n] allT pd a 0 = a * n / 100 ∧ keptO [quoT n] allT pd a = a - a * n / 100 := by
  have e : ph1 [quoT n] allT pd a 1 = (a - a * n / 100, updI (fun _ => 0) 0 (a * n / 100)) := by
    rw [ph1_succ (t := quoT n) rfl, tk1, if_pos ⟨by simp [quoT], rfl⟩]
    simp [ph1, takesT, quoT]
  constructor
  · show (ph2 [quoT n] pd (ph1 [quoT n] allT pd a 1).2 1).2 0 = _
    rw [ph2_succ (t := quoT n) rfl, tk2, if_neg (by simp [quoT]), e]
    rfl
  · show (ph1 [quoT n] allT pd a 1).1 = _
    rw [e]
theorem quo_tot (n : Int) : ∀ (l : List Int) (s : (Nat → Int) × Int), (totS [quoT n] allT l s).1 0 = s.1 0 + dueL n l ∧ (totS [quoT n] allT l s).2 = s.2 + keptL n l
  | [], s => by simp [totS, dueL, keptL]
  | a :: l, s => by
    obtain ⟨h1, h2⟩ := quo_one n s.1 a
    obtain ⟨h3, h4⟩ := quo_tot n l (fun i => s.1 i + nowO [quoT n] allT s.1 a i, s.2 + keptO [quoT n] allT s.1 a)
    rw [totS, dueL, keptL]
    refine ⟨?_, ?_⟩
    · rw [h3]; simp only; rw [h1]; omega
    · rw [h4]; simp only; rw [h2]; omega
theorem quo_pays (n : Int) (l : List Int) : (paysS [quoT n] allT l).1 0 = dueL n l ∧ (paysS [quoT n] allT l).2 = keptL n l := by
  have := quo_tot n l (zeroF, 0)
  simpa [paysS, zeroF] using this
end Go.Proofs.Ytaioobhblfnlaaa
