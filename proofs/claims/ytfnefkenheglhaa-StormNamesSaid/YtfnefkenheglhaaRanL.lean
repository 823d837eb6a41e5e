/- A region that draws its order, where a condition on the world AND on what has come up holds all the way: reads may be taken before stores into what they read. -/
import Derived.Test.YtfnefkenheglhaaBas
import Derived.OrdersHeld
import Derived.Deep.RegionHeld
namespace Go.Proofs.Ytfnefkenheglhaa
open Go.RowKit

section
variable {P : Program} {ops : Array Oper} {Q : Exit → Act → World → Prop} {md : Region.Mode} {S : Array Bool → World → Prop}

/-- Whatever order comes, S holds behind each operation, of what has come up. -/
def AnyL (P : Program) (md : Region.Mode) (ops : Array Oper) (Q : Exit → Act → World → Prop) (S : Array Bool → World → Prop) : Nat → Array Bool → Act → World → Prop
  | 0, listed, a, w => Region.ready md ops listed = [] ∧ Q .normal a w
  | k + 1, listed, a, w => (Region.ready md ops listed = [] → Q .normal a w) ∧ ∀ i ∈ Region.ready md ops listed, wpOp P ops Q i (fun a' w' => S (listed.setIfInBounds i true) w' ∧ AnyL P md ops Q S k (listed.setIfInBounds i true) a' w') a w

theorem AnyL.any : ∀ {k : Nat} {listed : Array Bool} {a : Act} {w : World}, AnyL P md ops Q S k listed a w → wpAny P md ops Q k listed a w
  | 0, _, _, _, h => h
  | _ + 1, _, _, _, h => ⟨h.1, fun i hi => wpOp_mono (fun _ _ h' => h'.2.any) (h.2 i hi)⟩

/-- None of some operations has come up. -/
def NoneOf (js : List Nat) (l : Array Bool) : Prop := ∀ j ∈ js, l.getD j true = false
def Early (S : Array Bool → World → Prop) (js : List Nat) (w : World) : Prop := ∃ l, NoneOf js l ∧ S l w
/-- Each of some operations waits for number i. -/
def waitsB (md : Region.Mode) (ops : Array Oper) (i : Nat) (js : List Nat) : Bool := js.all fun j => j != i && match ops[j]? with
  | some o => o.after.any fun e => Region.binds md e && e.on == i
  | none => false
theorem waitsB_spec {i : Nat} {js : List Nat} (h : waitsB md ops i js = true) {j : Nat} (hj : j ∈ js) : j ≠ i ∧ ∃ o, ops[j]? = some o ∧ ∃ e ∈ o.after, Region.binds md e = true ∧ e.on = i := by
  have h1 := List.all_eq_true.1 h j hj
  simp only [Bool.and_eq_true, bne_iff_ne, ne_eq] at h1
  refine ⟨h1.1, ?_⟩
  cases ho : ops[j]? with
  | none => rw [ho] at h1; simp at h1
  | some o =>
    rw [ho] at h1
    have h2 := h1.2
    simp only at h2
    rw [Array.any_eq_true] at h2
    obtain ⟨k, hk, h3⟩ := h2
    simp only [Bool.and_eq_true, beq_iff_eq] at h3
    exact ⟨o, rfl, o.after[k], Array.getElem_mem hk, h3⟩

theorem AnyL.first {i : Nat} {oi : Oper} {v : Value} {js : List Nat} (hi : ops[i]? = some oi) (hsel : ∀ (j : Nat) (o : Oper) cs b, ops[j]? = some o → o.op ≠ .select cs b)
    (hQ : ∀ c a w, Q (.panic c) (a.put oi.dst v) w → Q (.panic c) a w) (hw : waitsB md ops i js = true) (hm : ∀ l w, S (l.setIfInBounds i true) w ↔ S l w) :
    ∀ (fuel : Nat) (listed : Array Bool) (a : Act) (w : World),
      (∀ j oj, ops[j]? = some oj → j ≠ i → listed.getD j true = false → (∀ e ∈ oj.after, Region.binds md e = true → e.on ≠ i) → oi.apart ops oj = true) →
      i ∈ Region.ready md ops listed → NoneOf js listed → YieldsIf P ops (Early S js) oi v a → S listed w →
      AnyL P md ops Q S fuel (listed.setIfInBounds i true) (a.put oi.dst v) w → AnyL P md ops Q S (fuel + 1) listed a w := by
  intro fuel
  induction fuel with
  | zero =>
    intro listed a w _ hr hn hy hS H
    refine ⟨fun h => (by rw [h] at hr; cases hr), fun j hj => ?_⟩
    by_cases hji : j = i
    · subst hji; exact hy.wpOp hi ⟨_, hn, hS⟩ ⟨(hm _ _).2 hS, H⟩
    · have := ready_mono hj hji
      rw [H.1] at this
      cases this
  | succ fuel ih =>
    intro listed a w hfree hr hn hy hS H
    refine ⟨fun h => (by rw [h] at hr; cases hr), fun j hj => ?_⟩
    by_cases hji : j = i
    · subst hji; exact hy.wpOp hi ⟨_, hn, hS⟩ ⟨(hm _ _).2 hS, H⟩
    · have h1 := H.2 j (ready_mono hj hji)
      obtain ⟨hjun, oj, hoj, hall⟩ := mem_ready.1 hj
      have hnot : ∀ e ∈ oj.after, Region.binds md e = true → e.on ≠ i := fun e he hb heq => by
        have h1 := hall e he hb
        have h0 := (mem_ready.1 hr).1
        rw [heq] at h1
        rcases Nat.lt_or_ge i listed.size with h' | h'
        · simp [h'] at h0 h1; rw [h0] at h1; cases h1
        · simp [Array.getElem?_eq_none h'] at h1
      have h2 := wpOp_putIf hoj (hfree j oj hoj hji hjun hnot) (fun cs b => hsel i oi cs b hi) (fun cs b => hsel j oj cs b hoj) hQ hy h1
      have hfree' : ∀ k ok, ops[k]? = some ok → k ≠ i → (listed.setIfInBounds j true).getD k true = false →
          (∀ e ∈ ok.after, Region.binds md e = true → e.on ≠ i) → oi.apart ops ok = true := fun k ok hk hki hun hno => by
        refine hfree k ok hk hki ?_ hno
        by_cases hjk : j = k
        · subst hjk; exact hjun
        · rw [getD_set_ne true hjk] at hun; exact hun
      have hn' : NoneOf js (listed.setIfInBounds j true) := fun x hx => by
        obtain ⟨hxi, o, ho, e, he, hb, hei⟩ := waitsB_spec hw hx
        by_cases hjx : j = x
        · subst hjx
          rw [hoj] at ho
          cases ho
          exact absurd hei (hnot e he hb)
        · rw [getD_set_ne true hjx]; exact hn x hx
      refine wpOp_mono (fun a' w' h3 => ?_) h2
      have hc : (listed.setIfInBounds i true).setIfInBounds j true = (listed.setIfInBounds j true).setIfInBounds i true := Array.setIfInBounds_comm _ _ (Ne.symm hji)
      have hS' : S (listed.setIfInBounds j true) w' := (hm _ _).1 (hc ▸ h3.2.1)
      refine ⟨hS', ih (listed.setIfInBounds j true) a' w' hfree' (ready_mono hr (Ne.symm hji)) hn' h3.1 hS' ?_⟩
      rw [← hc]
      exact h3.2.2

/-- Take number i first: nobody of 'js' has come up, and each of them waits for i. -/
theorem anyL_take {i : Nat} (js : List Nat) {oi : Oper} {v : Value} {fuel : Nat} {listed : Array Bool} {a : Act} {w : World} (hi : ops[i]? = some oi)
    (hs : Region.noSelect ops = true) (hf : Region.free md ops listed i = true) (hr : (Region.ready md ops listed).contains i = true)
    (hQ : ∀ c a w, Q (.panic c) (a.put oi.dst v) w → Q (.panic c) a w) (hw : waitsB md ops i js = true) (hn : (js.all fun j => !listed.getD j true) = true) (hm : ∀ l w, S (l.setIfInBounds i true) w ↔ S l w) (hy : YieldsIf P ops (Early S js) oi v a) (hS : S listed w)
    (h : AnyL P md ops Q S fuel (listed.setIfInBounds i true) (a.put oi.dst v) w) : AnyL P md ops Q S (fuel + 1) listed a w :=
  AnyL.first hi (Region.noSelect_spec hs) hQ hw hm fuel listed a w (Region.free_spec hi hf) (by simpa using hr) (fun j hj => by simpa using List.all_eq_true.1 hn j hj) hy hS h

theorem anyL_done {listed : Array Bool} {a : Act} {w : World} (hr : Region.ready md ops listed = []) (h : Q .normal a w) : ∀ fuel, AnyL P md ops Q S fuel listed a w
  | 0 => ⟨hr, h⟩
  | _ + 1 => ⟨fun _ => h, by rw [hr]; simp⟩

/-- One alone may come up. -/
theorem anyL_one {i : Nat} {o : Oper} {fuel : Nat} {listed : Array Bool} {a : Act} {w : World} (hr : Region.ready md ops listed = [i]) (ho : ops[i]? = some o)
    (h : ∀ K' : Act → World → Prop, Hid (∀ a w, S (listed.setIfInBounds i true) w → (S (listed.setIfInBounds i true) w → AnyL P md ops Q S fuel (listed.setIfInBounds i true) a w) → K' a w) → if Region.wanted o (yielded ops a.tmps) = true then Oper.wp P o a w K' Q else K' (a.put o.dst undef) w) :
    AnyL P md ops Q S (fuel + 1) listed a w :=
  ⟨fun h0 => absurd (hr ▸ h0) (by simp), by
    rw [hr]
    intro j hj
    obtain rfl := List.mem_singleton.1 hj
    exact wpOp_step ho (fun K' hK => h K' (fun a w hS hW => hK a w ⟨hS, hW hS⟩))⟩

/-- The beginning. -/
theorem wp_region_listed {id : Nat} {a : Act} {w : World} (hm : P.follows .mixedOrders = true) (hS : S (Array.replicate ops.size false) w.drew)
    (h : S (Array.replicate ops.size false) w.drew → AnyL P .any ops Q S ops.size (Array.replicate ops.size false) a w.drew) : (Code.region id ops true).wp P Q a w :=
  wp_region_any hm (h hS).any
end

theorem getD_set_iff {l : Array Bool} {i j : Nat} (h : i ≠ j) : ((l.setIfInBounds i true).getD j true = false) ↔ (l.getD j true = false) := by rw [getD_set_ne true h]
end Go.Proofs.Ytfnefkenheglhaa
