/- Package treaty in plain words: programmes, what treaties take, truths and their numbers. No condition. -/
namespace Go.Proofs.Ytaioobhblfnlaaa

/-- A range. -/
structure Rng where
  lo : Int
  hi : Int
/-- A treaty. -/
structure Tre where
  kind : Int
  part : Int
  above : Int
  most : Int
  times : Int
  price : Int
  off : Int
/-- A report. -/
structure Rep where
  tr : Int
  paid : Rng
/-- A programme. -/
structure Prg where
  losses : List Rng
  reserve : Int
  ts : List Tre
  reps : List Rep

def inB (n lo hi : Int) : Bool := decide (lo ≤ n) && decide (n ≤ hi)
theorem inB_iff {n lo hi : Int} : inB n lo hi = true ↔ lo ≤ n ∧ n ≤ hi := by simp [inB]
def Rng.of (r : Rng) (lo hi : Int) : Bool := decide (lo ≤ r.lo) && (decide (r.lo ≤ r.hi) && decide (r.hi ≤ hi))
theorem Rng.of_iff {r : Rng} {lo hi : Int} : r.of lo hi = true ↔ lo ≤ r.lo ∧ r.lo ≤ r.hi ∧ r.hi ≤ hi := by simp [Rng.of]
def Rng.cnt (r : Rng) : Int := r.hi - r.lo + 1
def minI (a b : Int) : Int := if b < a then b else a
def maxI (a b : Int) : Int := if a < b then b else a

/-- f is at all elements, with their numbers. -/
def allI {α : Type} (f : Nat → α → Bool) : Nat → List α → Bool
  | _, [] => true
  | k, a :: r => f k a && allI f (k + 1) r
theorem allI_iff {α : Type} {f : Nat → α → Bool} : ∀ {k : Nat} {l : List α}, allI f k l = true ↔ ∀ i a, l[i]? = some a → f (k + i) a = true
  | k, [] => by simp [allI]
  | k, a :: r => by
    rw [allI, Bool.and_eq_true, allI_iff]
    constructor
    · rintro ⟨h1, h2⟩ i b hi
      cases i with
      | zero => simp at hi; subst hi; exact h1
      | succ i => rw [show k + (i + 1) = k + 1 + i by omega]; exact h2 i b (by simpa using hi)
    · intro h
      exact ⟨h 0 a rfl, fun i b hi => by rw [show k + 1 + i = k + (i + 1) by omega]; exact h (i + 1) b (by simpa using hi)⟩

/-- Whether a treaty is valid, apart from Off; whether it is with its number. -/
def quotaB (t : Tre) : Bool := inB t.part 1 100 && ((t.above == 0) && ((t.most == 0) && (t.times == 0)))
def excessB (t : Tre) : Bool := (t.kind == 1) && ((t.part == 0) && (inB t.above 0 1000 && inB t.most 1 1000))
def treV (t : Tre) : Bool := inB t.price 0 1000 && (inB t.times 0 3 && (if t.kind = 0 then quotaB t else excessB t))
def offB (i : Nat) (t : Tre) : Bool := inB t.off (-1) ((i : Int) - 1)
def treI (i : Nat) (t : Tre) : Bool := treV t && offB i t
def lossB (r : Rng) : Bool := r.of 0 1000
def repB (m : Nat) (r : Rep) : Bool := inB r.tr 0 ((m : Int) - 1) && r.paid.of 0 10000
def bigP (p : Prg) : Prop := 4 < p.losses.length ∨ 5 < p.ts.length ∨ 5 < p.reps.length
def argsB (p : Prg) : Bool := inB p.reserve 0 10000 && (p.losses.all lossB && (allI treI 0 p.ts && p.reps.all (repB p.ts.length)))
theorem tre_all (ts : List Tre) : allI treI 0 ts = (ts.all treV && allI offB 0 ts) := by
  rw [Bool.eq_iff_iff, Bool.and_eq_true, allI_iff, allI_iff, List.all_eq_true]
  constructor
  · intro h
    refine ⟨fun t ht => ?_, fun i t hi => ?_⟩
    · obtain ⟨i, hi⟩ := List.mem_iff_getElem?.1 ht
      have := h i t hi
      rw [treI, Bool.and_eq_true] at this; exact this.1
    · have := h i t hi
      rw [treI, Bool.and_eq_true] at this; exact this.2
  · rintro ⟨h1, h2⟩ i t hi
    rw [treI, Bool.and_eq_true]
    exact ⟨h1 t (List.mem_of_getElem? hi), h2 i t hi⟩
/-- How many truths there are without reports. -/
def prodL : List Rng → Int
  | [] => 1
  | r :: l => r.cnt * prodL l
open Classical in
noncomputable def faultP (p : Prg) : Int := if bigP p then 3 else if argsB p = true then (if 1500 < prodL p.losses then 3 else 0) else 1

/-- What a programme without an error is. -/
structure OkP (p : Prg) : Prop where
  n4 : p.losses.length ≤ 4
  m5 : p.ts.length ≤ 5
  k5 : p.reps.length ≤ 5
  r0 : 0 ≤ p.reserve
  r9 : p.reserve ≤ 10000
  loss : ∀ r ∈ p.losses, 0 ≤ r.lo ∧ r.lo ≤ r.hi ∧ r.hi ≤ 1000
  tre : ∀ (i : Nat) t, p.ts[i]? = some t → treV t = true ∧ -1 ≤ t.off ∧ t.off < i
  rep : ∀ r ∈ p.reps, (0 ≤ r.tr ∧ r.tr < p.ts.length) ∧ 0 ≤ r.paid.lo ∧ r.paid.lo ≤ r.paid.hi ∧ r.paid.hi ≤ 10000
  many : prodL p.losses ≤ 1500
theorem fault_big {p : Prg} (h : bigP p) : faultP p = 3 := by rw [faultP, if_pos h]
theorem fault_arg {p : Prg} (h : ¬ bigP p) (h2 : argsB p = false) : faultP p = 1 := by rw [faultP, if_neg h, if_neg (by rw [h2]; simp)]
theorem fault_many {p : Prg} (h : ¬ bigP p) (h2 : argsB p = true) : faultP p = if 1500 < prodL p.losses then 3 else 0 := by rw [faultP, if_neg h, if_pos h2]
theorem args_iff {p : Prg} : argsB p = true ↔ (0 ≤ p.reserve ∧ p.reserve ≤ 10000) ∧ (∀ r ∈ p.losses, 0 ≤ r.lo ∧ r.lo ≤ r.hi ∧ r.hi ≤ 1000) ∧ (∀ (i : Nat) t, p.ts[i]? = some t → treV t = true ∧ -1 ≤ t.off ∧ t.off < i) ∧
    ∀ r ∈ p.reps, (0 ≤ r.tr ∧ r.tr < p.ts.length) ∧ 0 ≤ r.paid.lo ∧ r.paid.lo ≤ r.paid.hi ∧ r.paid.hi ≤ 10000 := by
  unfold argsB
  rw [Bool.and_eq_true, Bool.and_eq_true, Bool.and_eq_true, inB_iff, List.all_eq_true, List.all_eq_true, allI_iff]
  refine and_congr Iff.rfl (and_congr ?_ (and_congr ?_ ?_))
  · refine forall_congr' fun r => imp_congr Iff.rfl ?_
    rw [lossB, Rng.of_iff]
  · refine forall_congr' fun i => forall_congr' fun t => imp_congr Iff.rfl ?_
    rw [treI, offB, Bool.and_eq_true, inB_iff, Nat.zero_add]
    constructor <;> (rintro ⟨h1, h2, h3⟩; exact ⟨h1, h2, by omega⟩)
  · refine forall_congr' fun r => imp_congr Iff.rfl ?_
    rw [repB, Bool.and_eq_true, inB_iff, Rng.of_iff]
    constructor <;> (rintro ⟨⟨h1, h2⟩, h3, h4, h5⟩; exact ⟨⟨h1, by omega⟩, h3, h4, h5⟩)
theorem fault_iff {p : Prg} : faultP p = 0 ↔ OkP p := by
  constructor
  · intro h
    by_cases hb : bigP p
    · rw [fault_big hb] at h; simp at h
    · cases ha : argsB p
      · rw [fault_arg hb ha] at h; simp at h
      · rw [fault_many hb ha] at h
        split at h
        · simp at h
        · rename_i hm
          obtain ⟨h1, h2, h3, h4⟩ := args_iff.1 ha
          unfold bigP at hb
          exact ⟨by omega, by omega, by omega, h1.1, h1.2, h2, h3, h4, by omega⟩
  · intro h
    have hb : ¬ bigP p := by unfold bigP; have := h.n4; have := h.m5; have := h.k5; omega
    rw [fault_many hb (args_iff.2 ⟨⟨h.r0, h.r9⟩, h.loss, h.tre, h.rep⟩), if_neg (by have := h.many; omega)]
theorem fault_cases (p : Prg) : faultP p = 0 ∨ faultP p = 1 ∨ faultP p = 3 := by
  by_cases hb : bigP p
  · rw [fault_big hb]; simp
  · cases ha : argsB p
    · rw [fault_arg hb ha]; simp
    · rw [fault_many hb ha]; split <;> simp

/-- The numbers of a range. -/
def Rng.nums (r : Rng) : List Int := (List.range r.cnt.toNat).map fun i : Nat => r.lo + i
theorem Rng.mem_nums {r : Rng} {n : Int} : n ∈ r.nums ↔ r.lo ≤ n ∧ n ≤ r.hi := by
  simp only [Rng.nums, List.mem_map, List.mem_range, Rng.cnt]
  constructor
  · rintro ⟨i, hi, rfl⟩; omega
  · rintro ⟨h1, h2⟩; exact ⟨(n - r.lo).toNat, by omega, by omega⟩

/-- Products of counts. -/
theorem prod_pos {l : List Rng} (h : ∀ r ∈ l, 1 ≤ r.cnt) : 1 ≤ prodL l := by
  induction l with
  | nil => simp [prodL]
  | cons r l ih =>
    have h1 := h r (by simp)
    have h2 := ih fun q hq => h q (by simp [hq])
    have := Int.mul_le_mul h1 h2 (by omega) (by omega)
    rw [prodL]; omega
theorem le_mul {a b : Int} (ha : 0 ≤ a) (hb : 1 ≤ b) : a ≤ a * b := by
  have := Int.mul_le_mul_of_nonneg_left hb ha; omega
/-- Products that are cut at a number: fold from the left. -/
def manyG (c : Int) : Int → List Rng → Int
  | n, [] => n
  | n, r :: l => manyG c (minI c (n * r.cnt)) l
theorem minI_spec (a b : Int) : minI a b ≤ a ∧ minI a b ≤ b ∧ (minI a b = a ∨ minI a b = b) := by unfold minI; split <;> omega
theorem maxI_spec (a b : Int) : a ≤ maxI a b ∧ b ≤ maxI a b ∧ (maxI a b = a ∨ maxI a b = b) := by unfold maxI; split <;> omega
theorem minI_mul {c x k : Int} (_hx : 0 ≤ x) (hk : 1 ≤ k) (hc : 0 ≤ c) : minI c (minI c x * k) = minI c (x * k) := by
  by_cases h : x ≤ c
  · have : minI c x = x := by unfold minI; split <;> omega
    rw [this]
  · have h1 : minI c x = c := by unfold minI; split <;> omega
    have h2 := le_mul hc hk
    have h3 : c * k ≤ x * k := Int.mul_le_mul_of_nonneg_right (by omega) (by omega)
    rw [h1]
    unfold minI
    split <;> split <;> omega
theorem many_prod (c : Int) (hc : 1 ≤ c) : ∀ (l : List Rng) (n : Int), 1 ≤ n → (∀ r ∈ l, 1 ≤ r.cnt) → manyG c (minI c n) l = minI c (n * prodL l)
  | [], n, _, _ => by simp [manyG, prodL]
  | r :: l, n, hn, h => by
    have h1 := h r (by simp)
    have h2 := le_mul (show 0 ≤ n by omega) h1
    rw [manyG, minI_mul (by omega) h1 (by omega), many_prod c hc l (n * r.cnt) (by omega) (fun q hq => h q (by simp [hq])), prodL, Int.mul_assoc]
theorem OkP.cnt {p : Prg} (ok : OkP p) : ∀ r ∈ p.losses, 1 ≤ r.cnt := fun r hr => by have := ok.loss r hr; unfold Rng.cnt; omega
theorem OkP.pos {p : Prg} (ok : OkP p) : 1 ≤ prodL p.losses := prod_pos ok.cnt

/-- Lists with one number of each of some ranges, in the program's order. -/
def listsL : List Rng → List (List Int)
  | [] => [[]]
  | r :: rs => r.nums.flatMap fun x => (listsL rs).map (x :: ·)
def listedB : List Rng → List Int → Bool
  | [], [] => true
  | r :: rs, x :: l => inB x r.lo r.hi && listedB rs l
  | _, _ => false
theorem mem_lists : ∀ {rs : List Rng} {l : List Int}, l ∈ listsL rs ↔ listedB rs l = true
  | [], [] => by simp [listsL, listedB]
  | [], x :: l => by simp [listsL, listedB]
  | r :: rs, [] => by simp [listsL, listedB]
  | r :: rs, x :: l => by
    simp only [listsL, listedB, List.mem_flatMap, List.mem_map, Rng.mem_nums, Bool.and_eq_true, inB_iff]
    constructor
    · rintro ⟨y, hy, m, hm, e⟩
      cases e
      exact ⟨hy, mem_lists.1 hm⟩
    · rintro ⟨h1, h2⟩; exact ⟨x, h1, l, mem_lists.2 h2, rfl⟩
theorem listed_len : ∀ {rs : List Rng} {l : List Int}, listedB rs l = true → l.length = rs.length
  | [], [], _ => rfl
  | [], x :: l, h => by simp [listedB] at h
  | r :: rs, [], h => by simp [listedB] at h
  | r :: rs, x :: l, h => by
    rw [listedB, Bool.and_eq_true] at h
    simp [listed_len h.2]
theorem listed_bd : ∀ {rs : List Rng} {l : List Int}, (∀ r ∈ rs, 0 ≤ r.lo ∧ r.lo ≤ r.hi ∧ r.hi ≤ 1000) → listedB rs l = true → ∀ x ∈ l, 0 ≤ x ∧ x ≤ 1000
  | [], [], _, _ => by simp
  | [], x :: l, _, h => by simp [listedB] at h
  | r :: rs, [], _, h => by simp [listedB] at h
  | r :: rs, y :: l, hr, h => by
    rw [listedB, Bool.and_eq_true, inB_iff] at h
    intro x hx
    rcases List.mem_cons.1 hx with rfl | hx
    · have := hr r (by simp); omega
    · exact listed_bd (fun q hq => hr q (by simp [hq])) h.2 x hx
/-- The truth with a number, in the reference's order. -/
def nthL : List Rng → Int → List Int
  | [], _ => []
  | r :: rs, n => (r.lo + n % r.cnt) :: nthL rs (n / r.cnt)
theorem nth_listed : ∀ {rs : List Rng}, (∀ r ∈ rs, 1 ≤ r.cnt) → ∀ n : Int, 0 ≤ n → listedB rs (nthL rs n) = true
  | [], _, _, _ => rfl
  | r :: rs, h, n, hn => by
    have h1 := h r (by simp)
    have h2 := Int.emod_nonneg n (show r.cnt ≠ 0 by omega)
    have h3 := Int.emod_lt_of_pos n (show 0 < r.cnt by omega)
    rw [nthL, listedB, Bool.and_eq_true, inB_iff]
    refine ⟨by unfold Rng.cnt at *; omega, nth_listed (fun q hq => h q (by simp [hq])) _ (Int.ediv_nonneg hn (by omega))⟩
theorem nth_onto : ∀ {rs : List Rng}, (∀ r ∈ rs, 1 ≤ r.cnt) → ∀ {l : List Int}, listedB rs l = true → ∃ n : Int, 0 ≤ n ∧ n < prodL rs ∧ nthL rs n = l
  | [], _, [], _ => ⟨0, by simp, by simp [prodL], rfl⟩
  | [], _, x :: l, h => by simp [listedB] at h
  | r :: rs, _, [], h => by simp [listedB] at h
  | r :: rs, hr, x :: l, h => by
    rw [listedB, Bool.and_eq_true, inB_iff] at h
    have h1 := hr r (by simp)
    obtain ⟨n, h0, hn, e⟩ := nth_onto (fun q hq => hr q (by simp [hq])) h.2
    have hd : 0 ≤ x - r.lo ∧ x - r.lo < r.cnt := by unfold Rng.cnt; omega
    have e1 : (x - r.lo + r.cnt * n) % r.cnt = x - r.lo := by
      rw [Int.add_mul_emod_self_left]; exact Int.emod_eq_of_lt hd.1 hd.2
    have e2 : (x - r.lo + r.cnt * n) / r.cnt = n := by
      rw [Int.add_mul_ediv_left _ _ (by omega), Int.ediv_eq_zero_of_lt hd.1 hd.2, Int.zero_add]
    refine ⟨x - r.lo + r.cnt * n, ?_, ?_, ?_⟩
    · have := Int.mul_nonneg (show 0 ≤ r.cnt by omega) h0; omega
    · have h5 : r.cnt * (n + 1) ≤ r.cnt * prodL rs := Int.mul_le_mul_of_nonneg_left (by omega) (by omega)
      rw [Int.mul_add] at h5
      rw [prodL]; omega
    · rw [nthL, e1, e2, e]; congr 1; omega

/-- What a treaty takes of what reaches it, after it paid some before. -/
def takesT (t : Tre) (n before : Int) : Int := if t.kind = 0 then n * t.part / 100 else minI (minI (maxI 0 (n - t.above)) t.most) (t.most * (t.times + 1) - before)
def updI (f : Nat → Int) (k : Nat) (v : Int) : Nat → Int := fun i => if i = k then v else f i
def tk1 (th : Nat → Bool) (pd : Nat → Int) (t : Tre) (k : Nat) (s : Int × (Nat → Int)) : Int × (Nat → Int) :=
  if t.off < 0 ∧ th k = true then (s.1 - takesT t s.1 (pd k), updI s.2 k (takesT t s.1 (pd k))) else s
def tk2 (pd : Nat → Int) (t : Tre) (k : Nat) (s : (Nat → Int) × (Nat → Int)) : (Nat → Int) × (Nat → Int) :=
  if 0 ≤ t.off then (updI (updI s.1 t.off.toNat (s.1 t.off.toNat - takesT t (s.1 t.off.toNat) (pd k))) k (takesT t (s.1 t.off.toNat) (pd k)), updI s.2 k (takesT t (s.1 t.off.toNat) (pd k))) else s
/-- The treaties that protect the society, the first k of them: what is left of a loss, what each one pays. -/
def ph1 (ts : List Tre) (th : Nat → Bool) (pd : Nat → Int) (loss : Int) : Nat → Int × (Nat → Int)
  | 0 => (loss, fun _ => 0)
  | k + 1 => match ts[k]? with
    | some t => tk1 th pd t k (ph1 ts th pd loss k)
    | none => ph1 ts th pd loss k
/-- The others: what is left of what each one pays, and what it pays. -/
def ph2 (ts : List Tre) (pd now : Nat → Int) : Nat → (Nat → Int) × (Nat → Int)
  | 0 => (now, now)
  | k + 1 => match ts[k]? with
    | some t => tk2 pd t k (ph2 ts pd now k)
    | none => ph2 ts pd now k
def keptO (ts : List Tre) (th : Nat → Bool) (pd : Nat → Int) (loss : Int) : Int := (ph1 ts th pd loss ts.length).1
def nowO (ts : List Tre) (th : Nat → Bool) (pd : Nat → Int) (loss : Int) : Nat → Int := (ph2 ts pd (ph1 ts th pd loss ts.length).2 ts.length).2
/-- All losses. -/
def totS (ts : List Tre) (th : Nat → Bool) : List Int → (Nat → Int) × Int → (Nat → Int) × Int
  | [], s => s
  | n :: l, s => totS ts th l (fun i => s.1 i + nowO ts th s.1 n i, s.2 + keptO ts th s.1 n)
def zeroF : Nat → Int := fun _ => 0
def paysS (ts : List Tre) (th : Nat → Bool) (l : List Int) : (Nat → Int) × Int := totS ts th l (zeroF, 0)

/-- What a treaty's limit is. -/
def capT (t : Tre) : Int := t.most * (t.times + 1)
theorem treV_iff {t : Tre} : treV t = true ↔ (0 ≤ t.price ∧ t.price ≤ 1000) ∧ (0 ≤ t.times ∧ t.times ≤ 3) ∧
    ((t.kind = 0 ∧ (1 ≤ t.part ∧ t.part ≤ 100) ∧ t.above = 0 ∧ t.most = 0 ∧ t.times = 0) ∨ (t.kind = 1 ∧ t.part = 0 ∧ (0 ≤ t.above ∧ t.above ≤ 1000) ∧ 1 ≤ t.most ∧ t.most ≤ 1000)) := by
  unfold treV
  rw [Bool.and_eq_true, Bool.and_eq_true, inB_iff, inB_iff]
  refine and_congr Iff.rfl (and_congr Iff.rfl ?_)
  by_cases h : t.kind = 0
  · rw [if_pos h, quotaB, Bool.and_eq_true, Bool.and_eq_true, Bool.and_eq_true, inB_iff]
    simp only [beq_iff_eq]
    constructor
    · intro h1; exact .inl ⟨h, h1⟩
    · rintro (⟨_, h1⟩ | ⟨h1, _⟩)
      · exact h1
      · omega
  · rw [if_neg h, excessB, Bool.and_eq_true, Bool.and_eq_true, Bool.and_eq_true, inB_iff, inB_iff]
    simp only [beq_iff_eq]
    constructor
    · intro h1; exact .inr h1
    · rintro (⟨h1, _⟩ | h1)
      · omega
      · exact h1
/-- What was paid is in order. -/
structure PdOk (ts : List Tre) (pd : Nat → Int) (b : Int) : Prop where
  lo : ∀ i, 0 ≤ pd i
  hi : ∀ i, pd i ≤ b
  cap : ∀ i t, ts[i]? = some t → t.kind ≠ 0 → pd i ≤ capT t
theorem cap_bd {t : Tre} (h : treV t = true) : 0 ≤ capT t ∧ capT t ≤ 4000 := by
  obtain ⟨_, h2, h3⟩ := treV_iff.1 h
  unfold capT
  have h4 : 0 ≤ t.most ∧ t.most ≤ 1000 := by rcases h3 with h3 | h3 <;> omega
  have a := Int.mul_nonneg h4.1 (show 0 ≤ t.times + 1 by omega)
  have b := Int.mul_le_mul h4.2 (show t.times + 1 ≤ 4 by omega) (by omega) (by omega)
  omega
/-- A treaty takes at least nothing, at most what reaches it. -/
theorem takes_bd {t : Tre} (hv : treV t = true) {n bf : Int} (hn : 0 ≤ n) (hc : t.kind ≠ 0 → bf ≤ capT t) : 0 ≤ takesT t n bf ∧ takesT t n bf ≤ n ∧ (t.kind ≠ 0 → takesT t n bf + bf ≤ capT t) := by
  obtain ⟨_, h2, h3⟩ := treV_iff.1 hv
  unfold takesT
  by_cases hk : t.kind = 0
  · rw [if_pos hk]
    have hp : 1 ≤ t.part ∧ t.part ≤ 100 := by rcases h3 with h3 | h3 <;> omega
    have a := Int.mul_nonneg hn (show 0 ≤ t.part by omega)
    have b := Int.mul_le_mul_of_nonneg_left hp.2 hn
    refine ⟨Int.ediv_nonneg a (by omega), ?_, fun h => (h hk).elim⟩
    omega
  · rw [if_neg hk]
    have := hc hk
    unfold capT at *
    generalize t.most * (t.times + 1) = C at *
    have hm : 1 ≤ t.most := by rcases h3 with h3 | h3 <;> omega
    have ha : 0 ≤ t.above := by rcases h3 with h3 | h3 <;> omega
    unfold minI maxI
    repeat' split
    all_goals (refine ⟨by omega, by omega, fun _ => by omega⟩)
theorem updI_same (f : Nat → Int) (k : Nat) (v : Int) : updI f k v k = v := by simp [updI]
theorem updI_ne (f : Nat → Int) {k i : Nat} (v : Int) (h : i ≠ k) : updI f k v i = f i := by simp [updI, h]

theorem getS {α : Type} {l : List α} {k : Nat} (h : k < l.length) : ∃ t, l[k]? = some t := ⟨l[k], List.getElem?_eq_getElem h⟩
theorem ph1_succ {ts : List Tre} {th : Nat → Bool} {pd : Nat → Int} {loss : Int} {k : Nat} {t : Tre} (h : ts[k]? = some t) : ph1 ts th pd loss (k + 1) = tk1 th pd t k (ph1 ts th pd loss k) := by rw [ph1, h]
theorem ph2_succ {ts : List Tre} {pd now : Nat → Int} {k : Nat} {t : Tre} (h : ts[k]? = some t) : ph2 ts pd now (k + 1) = tk2 pd t k (ph2 ts pd now k) := by rw [ph2, h]
/-- What holds after the first k treaties have acted. -/
structure Ph1 (ts : List Tre) (pd : Nat → Int) (loss : Int) (k : Nat) (s : Int × (Nat → Int)) : Prop where
  k0 : 0 ≤ s.1
  k1 : s.1 ≤ loss
  lo : ∀ i, 0 ≤ s.2 i
  hi : ∀ i, s.2 i ≤ loss
  zero : ∀ i, k ≤ i → s.2 i = 0
  cap : ∀ i t, ts[i]? = some t → t.kind ≠ 0 → pd i + s.2 i ≤ capT t
  other : ∀ i t, ts[i]? = some t → 0 ≤ t.off → s.2 i = 0
theorem ph1_ok {ts : List Tre} (hts : ∀ (i : Nat) t, ts[i]? = some t → treV t = true ∧ -1 ≤ t.off ∧ t.off < i) (th : Nat → Bool) {pd : Nat → Int} {b : Int} (hp : PdOk ts pd b) {loss : Int} (hl : 0 ≤ loss) :
    ∀ k, k ≤ ts.length → Ph1 ts pd loss k (ph1 ts th pd loss k)
  | 0, _ => ⟨hl, Int.le_refl _, fun _ => Int.le_refl _, fun _ => hl, fun _ _ => rfl, fun i t h1 h2 => by have := hp.cap i t h1 h2; simpa [ph1] using this, fun _ _ _ _ => rfl⟩
  | k + 1, hk => by
    have ih := ph1_ok hts th hp hl k (by omega)
    obtain ⟨t, ht⟩ := getS (show k < ts.length by omega)
    rw [ph1_succ ht, tk1]
    obtain ⟨hv, _, _⟩ := hts k t ht
    split
    · rename_i hc
      obtain ⟨a, b, c⟩ := takes_bd hv (n := (ph1 ts th pd loss k).1) (bf := pd k) ih.k0 (hp.cap k t ht)
      have q1 := ih.k1
      refine ⟨by show 0 ≤ _ - _; omega, by show _ - _ ≤ loss; omega, fun i => ?_, fun i => ?_, fun i hi => ?_, fun i u hu hk0 => ?_, fun i u hu ho => ?_⟩
      · show 0 ≤ updI _ _ _ _
        unfold updI; split
        · exact a
        · exact ih.lo i
      · show updI _ _ _ _ ≤ loss
        unfold updI; split
        · omega
        · exact ih.hi i
      · show updI _ _ _ _ = 0
        rw [updI_ne _ _ (by omega)]; exact ih.zero i (by omega)
      · show pd i + updI _ _ _ _ ≤ capT u
        unfold updI; split
        · rename_i e; subst e
          rw [ht] at hu; cases hu
          have := c hk0; omega
        · exact ih.cap i u hu hk0
      · show updI _ _ _ _ = 0
        by_cases e : i = k
        · subst e; rw [ht] at hu; cases hu; omega
        · rw [updI_ne _ _ e]; exact ih.other i u hu ho
    · exact ⟨ih.k0, ih.k1, ih.lo, ih.hi, fun i hi => ih.zero i (by omega), ih.cap, ih.other⟩
/-- What holds after the first k of the others have acted. -/
structure Ph2 (ts : List Tre) (pd : Nat → Int) (loss : Int) (k : Nat) (now1 : Nat → Int) (s : (Nat → Int) × (Nat → Int)) : Prop where
  r0 : ∀ i, 0 ≤ s.1 i
  r1 : ∀ i, s.1 i ≤ s.2 i
  hi : ∀ i, s.2 i ≤ loss
  zero : ∀ i, ts.length ≤ i → s.2 i = 0
  cap : ∀ i t, ts[i]? = some t → t.kind ≠ 0 → pd i + s.2 i ≤ capT t
  own : ∀ i t, ts[i]? = some t → t.off < 0 → s.2 i = now1 i
  late : ∀ i t, ts[i]? = some t → 0 ≤ t.off → k ≤ i → s.2 i = 0 ∧ s.1 i = 0
theorem ph2_ok {ts : List Tre} (hts : ∀ (i : Nat) t, ts[i]? = some t → treV t = true ∧ -1 ≤ t.off ∧ t.off < i) (th : Nat → Bool) {pd : Nat → Int} {b : Int} (hp : PdOk ts pd b) {loss : Int} (hl : 0 ≤ loss) :
    ∀ k, k ≤ ts.length → Ph2 ts pd loss k (ph1 ts th pd loss ts.length).2 (ph2 ts pd (ph1 ts th pd loss ts.length).2 k)
  | 0, _ => by
    have h1 := ph1_ok hts th hp hl ts.length (Nat.le_refl _)
    exact ⟨h1.lo, fun _ => Int.le_refl _, h1.hi, h1.zero, h1.cap, fun _ _ _ _ => rfl, fun i t ht ho _ => ⟨h1.other i t ht ho, h1.other i t ht ho⟩⟩
  | k + 1, hk => by
    have ih := ph2_ok hts th hp hl k (by omega)
    obtain ⟨t, ht⟩ := getS (show k < ts.length by omega)
    rw [ph2_succ ht, tk2]
    obtain ⟨hv, h1, h2⟩ := hts k t ht
    split
    · rename_i hc
      obtain ⟨a, b, c⟩ := takes_bd hv (n := (ph2 ts pd (ph1 ts th pd loss ts.length).2 k).1 t.off.toNat) (bf := pd k) (ih.r0 _) (hp.cap k t ht)
      have hne : t.off.toNat ≠ k := by omega
      have q1 := ih.r1 t.off.toNat
      have q2 := ih.hi t.off.toNat
      generalize takesT t ((ph2 ts pd (ph1 ts th pd loss ts.length).2 k).1 t.off.toNat) (pd k) = z at *
      refine ⟨fun i => ?_, fun i => ?_, fun i => ?_, fun i hi => ?_, fun i u hu hk0 => ?_, fun i u hu ho => ?_, fun i u hu ho hi => ?_⟩
      · show 0 ≤ updI (updI _ _ _) _ _ _
        by_cases e : i = k
        · subst e; rw [updI_same]; exact a
        · rw [updI_ne _ _ e]
          by_cases e2 : i = t.off.toNat
          · subst e2; rw [updI_same]; omega
          · rw [updI_ne _ _ e2]; exact ih.r0 i
      · show updI (updI _ _ _) _ _ _ ≤ updI _ _ _ _
        by_cases e : i = k
        · subst e; rw [updI_same, updI_same]; exact Int.le_refl _
        · rw [updI_ne _ _ e, updI_ne _ _ e]
          have := ih.r1 i
          by_cases e2 : i = t.off.toNat
          · subst e2; rw [updI_same]; omega
          · rw [updI_ne _ _ e2]; exact this
      · show updI _ _ _ _ ≤ loss
        by_cases e : i = k
        · subst e; rw [updI_same]; omega
        · rw [updI_ne _ _ e]; exact ih.hi i
      · show updI _ _ _ _ = 0
        rw [updI_ne _ _ (by omega)]; exact ih.zero i hi
      · show pd i + updI _ _ _ _ ≤ capT u
        by_cases e : i = k
        · subst e; rw [ht] at hu; cases hu; rw [updI_same]; have := c hk0; omega
        · rw [updI_ne _ _ e]; exact ih.cap i u hu hk0
      · show updI _ _ _ _ = _
        by_cases e : i = k
        · subst e; rw [ht] at hu; cases hu; omega
        · rw [updI_ne _ _ e]; exact ih.own i u hu ho
      · show updI _ _ _ _ = 0 ∧ updI (updI _ _ _) _ _ _ = 0
        rw [updI_ne _ _ (by omega), updI_ne _ _ (by omega), updI_ne _ _ (by omega)]
        exact ih.late i u hu ho (by omega)
    · exact ⟨ih.r0, ih.r1, ih.hi, ih.zero, ih.cap, ih.own, fun i u hu ho hi => ih.late i u hu ho (by omega)⟩
theorem now_ok {ts : List Tre} (hts : ∀ (i : Nat) t, ts[i]? = some t → treV t = true ∧ -1 ≤ t.off ∧ t.off < i) (th : Nat → Bool) {pd : Nat → Int} {b : Int} (hp : PdOk ts pd b) {loss : Int} (h0 : 0 ≤ loss) (h1 : loss ≤ 1000) :
    PdOk ts (fun i => pd i + nowO ts th pd loss i) (b + 1000) ∧ 0 ≤ keptO ts th pd loss ∧ keptO ts th pd loss ≤ loss := by
  have a := ph1_ok hts th hp h0 ts.length (Nat.le_refl _)
  have c := ph2_ok hts th hp h0 ts.length (Nat.le_refl _)
  refine ⟨⟨fun i => ?_, fun i => ?_, c.cap⟩, a.k0, a.k1⟩
  · have h1 := hp.lo i; have h2 := c.r0 i; have h3 := c.r1 i
    show 0 ≤ pd i + nowO ts th pd loss i
    unfold nowO; omega
  · have h1 := hp.hi i; have h2 := c.hi i
    show pd i + nowO ts th pd loss i ≤ _
    unfold nowO; omega
end Go.Proofs.Ytaioobhblfnlaaa
