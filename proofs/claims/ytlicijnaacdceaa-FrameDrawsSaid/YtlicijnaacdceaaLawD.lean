/- The helpers ready, can and sure of the laws. No condition. -/
import Derived.Test.YtlicijnaacdceaaLawLeaves
import Derived.Test.YtlicijnaacdceaaRefH
import Derived.Test.YtlicijnaacdceaaPlnD
namespace Go.Proofs.Ytlicijnaacdceaa
open Go.RowKit

/-- A survey as the argument of a statement: its box, made at w, and what its slices read as. -/
structure SAt (w : World) (r cc : Int) (p : Option Addr) (n c : Nat) (l : List Int) (sm : Int) (q : Option Addr) (m d : Nat) (cs : List Cnt) (W : World) : Prop where
  box : Boxed1 w #[.int .i64 r, .int .i64 cc, .slice p n c, .int .i64 sm, .slice q m d] 27 W
  ints : IntsAt W p n l
  cnts : CntsAt W q m cs

section
variable {w : World} {r cc : Int} {p : Option Addr} {n c : Nat} {l : List Int} {sm : Int} {q : Option Addr} {m d : Nat} {cs : List Cnt} {W W' : World}

theorem SAt.start (hl : IntsAt w p n l) (hcs : CntsAt w q m cs) : SAt w r cc p n c l sm q m d cs (w.alloc (.cells #[.int .i64 r, .int .i64 cc, .slice p n c, .int .i64 sm, .slice q m d] 27)) :=
  ⟨Boxed1.start _ _ _, hl.alloc _, hcs.alloc _⟩

theorem SAt.step (h : SAt w r cc p n c l sm q m d cs W) (hb : Below W.heap.size W W') : SAt w r cc p n c l sm q m d cs W' :=
  ⟨h.box.step hb, h.ints.below hb, h.cnts.below hb⟩

theorem SAt.drewN (h : SAt w r cc p n c l sm q m d cs W) (k : Nat) : SAt w r cc p n c l sm q m d cs (W.drewN k) := h.step (below_drewN (Below.refl _ _) k)

theorem SAt.alloc (h : SAt w r cc p n c l sm q m d cs W) (o : Obj) : SAt w r cc p n c l sm q m d cs (W.alloc o) := h.step ((Below.refl _ _).alloc (Nat.le_refl _) o)

theorem SAt.below (h : SAt w r cc p n c l sm q m d cs W) : Below w.heap.size w W := h.box.below

theorem SAt.c0 (h : SAt w r cc p n c l sm q m d cs W) : W.cell? ⟨w.heap.size, 0, none⟩ = some (.int .i64 r) := h.box.cell 0 rfl
theorem SAt.c1 (h : SAt w r cc p n c l sm q m d cs W) : W.cell? ⟨w.heap.size, 1, none⟩ = some (.int .i64 cc) := h.box.cell 1 rfl
theorem SAt.c2 (h : SAt w r cc p n c l sm q m d cs W) : W.cell? ⟨w.heap.size, 2, none⟩ = some (.slice p n c) := h.box.cell 2 rfl
theorem SAt.c3 (h : SAt w r cc p n c l sm q m d cs W) : W.cell? ⟨w.heap.size, 3, none⟩ = some (.int .i64 sm) := h.box.cell 3 rfl
theorem SAt.c4 (h : SAt w r cc p n c l sm q m d cs W) : W.cell? ⟨w.heap.size, 4, none⟩ = some (.slice q m d) := h.box.cell 4 rfl

theorem sat_call {P : Program} {f : FuncId} {args : Array Value} {R : Ending → World → Prop} (h : SAt w r cc p n c l sm q m d cs W) (hc : Calls P f args W fun e W' => R e W' ∧ Below W.heap.size W W') :
    Calls P f args W fun e W' => R e W' ∧ SAt w r cc p n c l sm q m d cs W' :=
  hc.mono fun _ _ ⟨h1, h2⟩ => ⟨h1, h.step h2⟩
end

def thinB (n m : Nat) : Bool := decide (n ≤ 12) && decide (m ≤ 9)

set_option maxRecDepth 20000 in
set_option maxHeartbeats 2000000 in
theorem ready_any (r cc : Int) (p : Option Addr) (n c : Nat) (l : List Int) (sm : Int) (q : Option Addr) (m d : Nat) (cs : List Cnt) (w : World) (hl : IntsAt w p n l) (hcs : CntsAt w q m cs) :
    Calls Try.prog 39 #[.agg #[.int .i64 r, .int .i64 cc, .slice p n c, .int .i64 sm, .slice q m d]] w fun e w' => e = .returned (.bool (thinB n m && decide (faultL r cc l sm cs = 0))) ∧ Below w.heap.size w w' := by
  have HS1 := hid (SAt.start (r := r) (cc := cc) (c := c) (sm := sm) (d := d) hl hcs)
  clear hl hcs
  have g0 := HS1.out.c0; have g1 := HS1.out.c1; have g2 := HS1.out.c2; have g3 := HS1.out.c3; have g4 := HS1.out.c4
  by_cases ht : thinB n m = true
  · have ht' := ht
    unfold thinB at ht'
    simp only [Bool.and_eq_true, decide_eq_true_eq] at ht'
    have HN := hid ht'
    clear ht'
    go_enter Try.func39, Try.ntmps39
    go_wp2_with fail
    refine (thin_any _ _ _ _ _ _ _ _ _ _).mono ?_
    rintro e w2 ⟨rfl, hb⟩
    rw [show (decide (n ≤ 12) && decide (m ≤ 9)) = true from ht]
    have HS2 := hid (HS1.out.step hb)
    clear hb g0 g1 g2 g3 g4
    have g0 := HS2.out.c0; have g1 := HS2.out.c1; have g2 := HS2.out.c2; have g3 := HS2.out.c3; have g4 := HS2.out.c4
    go_wp2_with fail
    refine (faultX_any r cc p n c l sm q m d cs _ HS2.out.ints HS2.out.cnts (by have := HN.out; omega) (by have := HN.out; omega)).mono ?_
    rintro e w3 ⟨rfl, hb⟩
    have HB := hid (HS2.out.step hb).below
    clear hb g0 g1 g2 g3 g4
    obtain ⟨fl, hfl⟩ : ∃ a, faultL r cc l sm cs = a := ⟨_, rfl⟩
    rw [hfl]
    have HT := hid ht
    have HFL := hid hfl
    clear hfl ht
    by_cases hf : fl = 0
    · subst hf
      go_wp2_with fail
      go_ret
      exact ⟨ret_bool (by simp [HT.out, HFL.out]), HB.out⟩
    · have hfb : (fl == 0) = false := by simp [hf]
      go_wp2_with fail
      go_ret
      exact ⟨ret_bool (by simp [HT.out, HFL.out, hf]), HB.out⟩
  · have ht' : thinB n m = false := by simpa using ht
    go_enter Try.func39, Try.ntmps39
    go_wp2_with fail
    refine (thin_any _ _ _ _ _ _ _ _ _ _).mono ?_
    rintro e w2 ⟨rfl, hb⟩
    rw [show (decide (n ≤ 12) && decide (m ≤ 9)) = false from ht']
    have HS2 := hid (HS1.out.step hb)
    clear hb g0 g1 g2 g3 g4
    go_wp2_with fail
    go_ret
    exact ⟨ret_bool (by rw [ht']; rfl), HS2.out.below⟩

set_option maxRecDepth 20000 in
set_option maxHeartbeats 2000000 in
theorem canX_any (r cc : Int) (p : Option Addr) (n c : Nat) (l : List Int) (sm : Int) (q : Option Addr) (m d : Nat) (cs : List Cnt) (w : World) (hl : IntsAt w p n l) (hcs : CntsAt w q m cs) :
    Calls Try.prog 33 #[.agg #[.int .i64 r, .int .i64 cc, .slice p n c, .int .i64 sm, .slice q m d]] w fun e w' => e = .returned (.bool ((thinB n m && decide (faultL r cc l sm cs = 0)) && canB cc l sm cs 0)) ∧ Below w.heap.size w w' := by
  have HS1 := hid (SAt.start (r := r) (cc := cc) (c := c) (sm := sm) (d := d) hl hcs)
  have HL := hid hl
  have HC := hid hcs
  clear hl hcs
  have g0 := HS1.out.c0; have g1 := HS1.out.c1; have g2 := HS1.out.c2; have g3 := HS1.out.c3; have g4 := HS1.out.c4
  by_cases ht : (thinB n m && decide (faultL r cc l sm cs = 0)) = true
  · have hf : faultL r cc l sm cs = 0 := by simp only [Bool.and_eq_true, decide_eq_true_eq] at ht; exact ht.2
    have HF := hid hf
    have HT := hid ht
    have HT2 : Hid (thinB n m = true) := by simp only [Bool.and_eq_true] at ht; exact ht.1
    clear hf
    go_enter Try.func33, Try.ntmps33
    go_wp2_with fail
    refine (ready_any r cc p n c l sm q m d cs _ HS1.out.ints HS1.out.cnts).mono ?_
    rintro e w2 ⟨rfl, hb⟩
    rw [ht]
    have HS2 := hid (HS1.out.step hb)
    clear hb g0 g1 g2 g3 g4 ht
    have g0 := HS2.out.c0; have g1 := HS2.out.c1; have g2 := HS2.out.c2; have g3 := HS2.out.c3; have g4 := HS2.out.c4
    go_wp2_with fail
    refine (can_any r cc p n c l sm q m d cs 0 _ HS2.out.ints HS2.out.cnts (oks_of HF.out) (by decide) (by decide)).mono ?_
    rintro e w3 ⟨rfl, hb⟩
    have HB := hid (HS2.out.step hb).below
    clear hb g0 g1 g2 g3 g4
    obtain ⟨x, hx⟩ : ∃ a, canB cc l sm cs 0 = a := ⟨_, rfl⟩
    rw [hx]
    have HX := hid hx
    clear hx
    go_wp2_with fail
    go_ret
    exact ⟨ret_bool (by simp [HX.out, HF.out, HT2.out]), HB.out⟩
  · have ht' : (thinB n m && decide (faultL r cc l sm cs = 0)) = false := by simpa using ht
    clear ht
    have HT := hid ht'
    go_enter Try.func33, Try.ntmps33
    go_wp2_with fail
    refine (ready_any r cc p n c l sm q m d cs _ HS1.out.ints HS1.out.cnts).mono ?_
    rintro e w2 ⟨rfl, hb⟩
    rw [ht']
    have HS2 := hid (HS1.out.step hb)
    clear hb g0 g1 g2 g3 g4 ht'
    go_wp2_with fail
    go_ret
    exact ⟨ret_bool (by rw [HT.out]; rfl), HS2.out.below⟩

def sureE (r cc : Int) (l : List Int) (sm : Int) (cs : List Cnt) : Int := if faultL r cc l sm cs = 0 then (if truthsL cc l sm cs 0 = [] then 9 else 0) else faultL r cc l sm cs
def sureV (r cc : Int) (l : List Int) (sm : Int) (cs : List Cnt) : List Int := if faultL r cc l sm cs = 0 then truthsL cc l sm cs 0 else []

theorem retList_mk {w w' : World} {P : List Int → Prop} {E E' : Int} {p : Option Addr} {k c : Nat} {X : List Int} (hE : E = E') (hX : IntsAt w' p k X) (hP : P X) (hb : Below w.heap.size w w') : RetList w P E' (.returned (.tuple #[.slice p k c, .int .i64 E])) w' :=
  ⟨p, k, c, X, by rw [hE], hX, hP, hb⟩

set_option maxRecDepth 20000 in
set_option maxHeartbeats 2000000 in
theorem sure_any (r cc : Int) (p : Option Addr) (n c : Nat) (l : List Int) (sm : Int) (q : Option Addr) (m d : Nat) (cs : List Cnt) (w : World) (hl : IntsAt w p n l) (hcs : CntsAt w q m cs) (hn : n ≤ 100) (hm : m ≤ 100) :
    Calls Try.prog 24 #[.agg #[.int .i64 r, .int .i64 cc, .slice p n c, .int .i64 sm, .slice q m d]] w (RetList w (fun X => X = sureV r cc l sm cs) (sureE r cc l sm cs)) := by
  have HS1 := hid (SAt.start (r := r) (cc := cc) (c := c) (sm := sm) (d := d) hl hcs)
  have HN := hid (And.intro hn hm)
  clear hl hcs hn hm
  have g0 := HS1.out.c0; have g1 := HS1.out.c1; have g2 := HS1.out.c2; have g3 := HS1.out.c3; have g4 := HS1.out.c4
  go_enter Try.func24, Try.ntmps24
  go_wp2_with fail
  refine (faultX_any r cc p n c l sm q m d cs _ HS1.out.ints HS1.out.cnts HN.out.1 HN.out.2).mono ?_
  rintro e w2 ⟨rfl, hb⟩
  have HS2 := hid (HS1.out.step hb)
  clear hb g0 g1 g2 g3 g4
  by_cases hf : faultL r cc l sm cs = 0
  · have HF := hid hf
    rw [hf]
    clear hf
    have g0 := HS2.out.c0; have g1 := HS2.out.c1; have g2 := HS2.out.c2; have g3 := HS2.out.c3; have g4 := HS2.out.c4
    go_wp2_with fail
    refine (truths_any r cc p n c l sm q m d cs 0 _ HS2.out.ints HS2.out.cnts (oks_of HF.out) (by decide) (by decide)).mono ?_
    rintro e w3 ⟨v, rfl, ho, hb⟩
    obtain ⟨p3, c3, rfl, h3⟩ := ho.slice
    have HB := hid (HS2.out.step hb).below
    have H3 := hid h3
    clear hb ho h3 g0 g1 g2 g3 g4
    have HV : Hid (sureV r cc l sm cs = truthsL cc l sm cs 0) := by unfold sureV; rw [if_pos HF.out]; exact rfl
    have HE : Hid (sureE r cc l sm cs = if truthsL cc l sm cs 0 = [] then 9 else 0) := by unfold sureE; rw [if_pos HF.out]; exact rfl
    by_cases hT : truthsL cc l sm cs 0 = []
    · rw [hT]
      go_wp2_with fail
      go_ret2
      exact retList_mk (by rw [HE.out, if_pos hT]) (IntsAt.nil _) (by rw [HV.out, hT]) HB.out
    · generalize truthsL cc l sm cs 0 = T at *
      obtain ⟨k, hk⟩ : ∃ k, T.length = k + 1 := ⟨T.length - 1, by cases T with | nil => exact absurd rfl hT | cons _ _ => simp⟩
      have HK := hid hk
      rw [hk]
      clear hk
      go_wp2_with fail
      go_ret2
      exact retList_mk (by rw [HE.out, if_neg hT]) (by rw [← HK.out]; exact H3.out) HV.out.symm HB.out
  · have HV : Hid (sureV r cc l sm cs = []) := by unfold sureV; rw [if_neg hf]; exact rfl
    have HE : Hid (sureE r cc l sm cs = faultL r cc l sm cs) := by unfold sureE; rw [if_neg hf]; exact rfl
    obtain ⟨fl, hfl⟩ : ∃ a, faultL r cc l sm cs = a := ⟨_, rfl⟩
    rw [hfl] at hf ⊢
    have HFL := hid hfl
    clear hfl
    have hfb : (fl == 0) = false := by simp [hf]
    go_wp2_with fail
    go_ret2
    exact retList_mk (by rw [HE.out, HFL.out]) (IntsAt.nil _) HV.out.symm HS2.out.below

end Go.Proofs.Ytlicijnaacdceaa
