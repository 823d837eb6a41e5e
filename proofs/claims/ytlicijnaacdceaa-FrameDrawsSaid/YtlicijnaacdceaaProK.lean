/- The iterator over the truths gives them. -/
import Derived.Test.YtlicijnaacdceaaProJ
import Derived.Laws.EntriesVeiled
namespace Go.Proofs.Ytlicijnaacdceaa
open Go.RowKit

theorem costP_le : ∀ (l : List Int), (∀ x ∈ l, 0 ≤ x ∧ x ≤ 9) → costP l + 2 ≤ 2 * 11 ^ l.length
  | [], _ => by simp [costP]
  | s :: r, h => by
    have ih := costP_le r fun x hx => h x (by simp [hx])
    have hs := h s (by simp)
    have h1 : (s + 1).toNat ≤ 10 := by omega
    have h2 : (s + 1).toNat * (1 + costP r) ≤ 10 * (1 + costP r) := Nat.mul_le_mul_right _ h1
    rw [costP, List.length_cons, Nat.pow_succ]
    have h3 : 1 ≤ 11 ^ r.length := Nat.one_le_pow _ _ (by omega)
    omega

theorem costP_lt (l : List Int) (hn : l.length ≤ 9) (h : ∀ x ∈ l, 0 ≤ x ∧ x ≤ 9) : 0 + costP l < maxLen := by
  have h1 := costP_le l h
  have h2 : (11 : Nat) ^ l.length ≤ 11 ^ 9 := Nat.pow_le_pow_right (by omega) hn
  unfold maxLen
  omega

theorem hitsAt_zero (w : World) (T : TypeId) : HitsW (w.alloc (.cells #[.int .i64 0, .int .i64 0, .int .i64 0, .int .i64 0, .int .i64 0, .int .i64 0, .int .i64 0, .int .i64 0, .int .i64 0] T)) w.heap.size [] := by
  refine ⟨hitsAt_box w [] T, fun i hi => ?_⟩
  have := heap_alloc_new w (.cells #[.int .i64 0, .int .i64 0, .int .i64 0, .int .i64 0, .int .i64 0, .int .i64 0, .int .i64 0, .int .i64 0, .int .i64 0] T)
  simp only [World.frozen?]
  rw [this]
  rfl

section
variable (b bv bm : Nat) (rr cc : Int) (p : Option Addr) (n c : Nat) (l : List Int) (sm : Int) (q : Option Addr) (m d : Nat) (cs : List Cnt) (po : Option Addr) (no co : Nat) (outl : List Int)

set_option maxRecDepth 40000 in
set_option maxHeartbeats 4000000 in
/-- The iterator over the truths gives them. -/
theorem truths_gives (hl : n = l.length) (hn : n ≤ 9) (hm : m ≤ 1000000) (hno : no ≤ 1000000) (hlb : ∀ x ∈ l, 0 ≤ x ∧ x ≤ 9) (hc1 : 1 ≤ cc) (hc4 : cc ≤ 4) (hs0 : 0 ≤ sm) (hs9 : sm ≤ 9) (w : World) (k : Nat)
    (hS : SurvAt w b bv bm rr cc p n c l sm q m d cs po no co outl 0) :
    Gives Fence.wide k Try.prog 95 #[.pointer (some ⟨bv, 0, none⟩)] hitsV (genP (okP cs outl cc sm) l 0 []) (fun i => i = bm) (RdOf b bv bm p n q m po no) w := by
  intro l0 J Jx C W hW hC hJ hJx hY h0
  refine (callsIn_wide (n := k)).2 ?_
  have hS1 := hS.below hW
  obtain ⟨W2, hW2⟩ : ∃ W2, (W.alloc (.cells #[.func (.yield l0) #[] #[]] 142)).alloc (.cells #[.int .i64 0, .int .i64 0, .int .i64 0, .int .i64 0, .int .i64 0, .int .i64 0, .int .i64 0, .int .i64 0, .int .i64 0] 116) = W2 := ⟨_, rfl⟩
  have hmf : ∀ (fn : Fn) (first cap : Array Value) (w : World), (Instr.makeFunc fn first cap).run Try.prog w = .ok (.func fn first cap) w := fun _ _ _ _ => rfl
  have hargs : (#[.func (.yield l0) #[] #[]] ++ #[.pointer (some ⟨bv, 0, none⟩)] : Array Value) = #[.func (.yield l0) #[] #[], .pointer (some ⟨bv, 0, none⟩)] := rfl
  rw [hargs]
  have hsz2 : W2.heap.size = W.heap.size + 2 := by rw [← hW2]; simp
  have hb2 : Below W.heap.size W W2 := by rw [← hW2]; exact ((Below.refl _ _).alloc (Nat.le_refl _) _).alloc (by simp) _
  obtain ⟨W3, hW3⟩ : ∃ W3, W2.alloc (.cells #[.func (.func 96) #[] #[.pointer (some ⟨bv, 0, none⟩), .pointer (some ⟨W.heap.size, 0, none⟩), .pointer (some ⟨W.heap.size + 1, 0, none⟩), .pointer (some ⟨W2.heap.size, 0, none⟩)]] 128) = W3 := ⟨_, rfl⟩
  have hb3 : Below W2.heap.size W2 W3 := by rw [← hW3]; exact (Below.refl _ _).alloc (Nat.le_refl _) _
  have hbW : Below W.heap.size W W3 := hb2.trans (hb3.mono hb2.size)
  have hI : ItBox W3 l0 W.heap.size bv [] := by
    refine ⟨?_, ?_, ?_⟩
    · have h1 : W2.cell? ⟨W.heap.size, 0, none⟩ = some (.func (.yield l0) #[] #[]) := by
        rw [← hW2]
        exact (((Below.refl _ _).alloc (Nat.le_refl _) _ : Below (W.alloc (.cells #[.func (.yield l0) #[] #[]] 142)).heap.size _ _).cell (p := ⟨W.heap.size, 0, none⟩) (by simp)).trans (cell_box W _ _ 0 _ rfl)
      exact (hb3.cell (p := ⟨W.heap.size, 0, none⟩) (by show W.heap.size < _; omega)).trans h1
    · have h1 : HitsW W2 (W.heap.size + 1) [] := by
        have := hitsAt_zero (W.alloc (.cells #[.func (.yield l0) #[] #[]] 142)) 116
        rw [hW2, World.size_alloc] at this
        exact this
      exact h1.kept (hb3.block _ (by omega))
    · have := cell_box W2 #[.func (.func 96) #[] #[.pointer (some ⟨bv, 0, none⟩), .pointer (some ⟨W.heap.size, 0, none⟩), .pointer (some ⟨W.heap.size + 1, 0, none⟩), .pointer (some ⟨W2.heap.size, 0, none⟩)]] 128 0 _ rfl
      rw [hW3, hsz2] at this
      exact this
  have hRB : ∀ k, RdOf b bv bm p n q m po no k → k < W.heap.size := by
    intro k hk
    obtain ⟨M, hM, _⟩ := hS1.known
    rcases hk with rfl | rfl | rfl | ⟨a, ha, h0, rfl⟩ | ⟨a, ha, h0, rfl⟩ | ⟨a, ha, h0, rfl⟩
    · exact hS1.work.lt
    · exact World.block_lt_of_cell? _ _ hS1.box
    · exact hM.lt
    · obtain ⟨b1, o1, e, hlt, _⟩ := hS1.stems.at h0
      rw [ha] at e; cases e; exact hlt
    · obtain ⟨x, _, b1, o1, e, hlt, _⟩ := hS1.cnts.at h0
      rw [ha] at e; cases e; exact hlt
    · obtain ⟨b1, o1, e, hlt, _⟩ := hS1.outs.at h0
      rw [ha] at e; cases e; exact hlt
  have hcall := choose_any l0 W.heap.size b bv bm rr cc p n c l sm q m d cs po no co outl J Jx C (genP (okP cs outl cc sm) l 0 []) hl hn hm hno hlb hc1 hc4 hs0 hs9 hRB hJ hC
    (fun done x rest W1 h hj => yield_any 0 (hY done x rest W1 h hj)) l 0 [] 0 [] [] W3 rfl (Nat.zero_le _) rfl (by simp) (costP_lt l (by omega) hlb) (hS1.below hbW) hI (by simp) (hJ _ _ _ h0 (Near.of_below hbW (fun i h1 h2 => by omega)))
  rw [show W.heap.size + 2 = W2.heap.size from hsz2.symm] at hcall
  have hq : W3.cell? ⟨W2.heap.size, 0, none⟩ = some (.func (.func 96) #[] #[.pointer (some ⟨bv, 0, none⟩), .pointer (some ⟨W.heap.size, 0, none⟩), .pointer (some ⟨W.heap.size + 1, 0, none⟩), .pointer (some ⟨W2.heap.size, 0, none⟩)]) := by
    rw [← hW3]; exact cell_box W2 _ _ 0 _ rfl
  have HC := hid hcall
  clear hcall hS hS1 hJ hJx hY h0 hRB hI hbW hb3 hb2 hsz2 hW hC
  go_enter Try.func95, Try.ntmps95
  go_wp2_with fail
  refine HC.out.mono ?_
  rintro e W4 (⟨rfl, hj4, _⟩ | ⟨rfl, qq, tt, hqt, hx4⟩)
  · have HJ4 := hid hj4
    clear hj4
    go_wp2_with fail
    go_end0
    exact ⟨⟨_, rfl⟩, .inl HJ4.out⟩
  · have HX := hid hx4
    have HQ := hid hqt
    clear hx4 hqt
    go_wp2_with fail
    go_end0
    exact ⟨⟨_, rfl⟩, .inr ⟨qq, tt, HQ.out, HX.out⟩⟩
end
end Go.Proofs.Ytlicijnaacdceaa
