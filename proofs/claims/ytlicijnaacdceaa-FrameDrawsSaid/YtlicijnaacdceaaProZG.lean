/- slices.Delete and what is left of the drawn places. No condition. -/
import Derived.Test.YtlicijnaacdceaaProI
import Derived.Deep.RegionLaw
import Derived.Lib.SliceRun
import Derived.Lib.SlicesDelete
import Derived.Sort.OwnSortedInts
namespace Go.Proofs.Ytlicijnaacdceaa
open Go.RowKit Go.Lib Go.Sort

theorem Try.und22 : Try.prog.underlying 22 = some (.slice 3) := by kernel_rfl

theorem Try.zero3 (w : World) : (zeroValue 3).run Try.prog w = .ok (.int .i64 0) w := by kernel_rfl
abbrev encI : Int → Value := Value.int .i64

set_option maxHeartbeats 4000000 in
set_option maxRecDepth 1000000 in
/-- slices.Delete at []int, over an array. -/
theorem delete_arr_any (blk off cap i j : Nat) (d : Array Int) (w : World) (hH : Holds encI w blk off d) (hcap : d.size ≤ cap) (hm : cap ≤ 9223372036854775807) (hij : i ≤ j) (hj : j ≤ d.size) :
    Calls Try.prog 93 #[.slice (some ⟨blk, off, none⟩) d.size cap, .int .i64 i, .int .i64 j] w fun e w' => e = .returned (.slice (some ⟨blk, off, none⟩) (d.size - (j - i)) cap) ∧ ∃ q, w' = putRow encI (Sort.ahead w q) blk off (d.toList.take i ++ d.toList.drop j ++ List.replicate (j - i) 0).toArray := by
  obtain ⟨i0, hi0, hz0, hz1, hz2⟩ := info_parts Try.info3
  by_cases heq : i = j
  · subst heq
    have h0 : Calls Try.prog 93 #[.slice (some ⟨blk, off, none⟩) d.size cap, .int .i64 i, .int .i64 i] w fun e w' => e = .returned (.slice (some ⟨blk, off, none⟩) d.size cap) ∧ w' = w := by
      clear hH
      go_enter Try.func93, Try.ntmps93
      go_wp2
      all_goals (go_ret; exact ⟨rfl, rfl⟩)
    refine h0.mono ?_
    rintro e w' ⟨rfl, rfl⟩
    have e : (d.toList.take i ++ d.toList.drop i ++ List.replicate (i - i) 0).toArray = d := by simp
    refine ⟨by rw [Nat.sub_self, Nat.sub_zero], 0, ?_⟩
    rw [e]
    exact (putRow_self encI (Sort.ahead w' 0) blk off d hH).symm
  · have hlt : i < j := by omega
    -- the cells that are moved to the left
    obtain ⟨news, hnews⟩ : ∃ news, news = (d.toList.drop j).map encI := ⟨_, rfl⟩
    have hlen : news.length = d.size - j := by rw [hnews]; simp
    have hget : ∀ t, t < d.size - j → news[t]? = some (encI d[j + t]!) := by
      intro t ht
      rw [hnews, List.getElem?_map, List.getElem?_drop, Array.getElem?_toList, getElem!_pos d (j + t) (by omega), Array.getElem?_eq_getElem (by omega)]
      rfl
    obtain ⟨A, hA, hsrc⟩ : ∃ A : Addr, (if cap = j then some (⟨blk, off, none⟩ : Addr) else some ⟨blk, off + j, none⟩) = some A ∧ Hid (∀ t u, news[t]? = some u → w.drew.cell? (A.add t) = some u) := by
      by_cases h : cap = j
      · refine ⟨⟨blk, off, none⟩, by simp [h], fun t u hu => ?_⟩
        have h0 : news.length = 0 := by rw [hlen]; omega
        rw [List.length_eq_zero_iff.1 h0] at hu
        simp at hu
      · refine ⟨⟨blk, off + j, none⟩, by simp [h], fun t u hu => ?_⟩
        have ht : t < d.size - j := by
          have := (List.getElem?_eq_some_iff.1 hu).1
          rwa [hlen] at this
        rw [hget t ht] at hu
        rw [Addr.add_lit, show off + j + t = off + (j + t) by omega]
        exact (hH (j + t) (by omega)).1.trans hu
    have s1 : Hid (news.length = (d.size - j) * 1) := by rw [Nat.mul_one]; exact hlen
    have s2 : Hid (∀ u ∈ news, u.oneCell' = true) := by
      intro u hu
      rw [hnews] at hu
      obtain ⟨x, _, rfl⟩ := List.mem_map.1 hu
      rfl
    have s3 : Hid (∀ t, t < news.length → (w.drew.cell? ⟨blk, off + i * 1 + t, none⟩).isSome = true ∧ w.drew.frozen? ⟨blk, off + i * 1 + t, none⟩ = false) := by
      intro t ht
      rw [hlen] at ht
      rw [Nat.mul_one, Nat.add_assoc]
      exact ⟨by show (w.cell? _).isSome = true; rw [(hH (i + t) (by omega)).1]; rfl, (hH (i + t) (by omega)).2⟩
    -- the world behind the append, behind a name
    obtain ⟨W1, hW1⟩ : ∃ W1, W1 = w.drew.setCells blk (off + i * 1) news := ⟨_, rfl⟩
    have hW1' : W1 = putRow encI (Sort.ahead w 1) blk off (lay d i (d.toList.drop j)) := by
      rw [hW1, hnews, Nat.mul_one, ← putRow_setCells encI (Sort.ahead w 1) blk off _ d i (by simp; omega), putRow_self encI (Sort.ahead w 1) blk off d (holds_ahead encI w 1 blk off d hH)]
      rfl
    have hH1 : Holds encI W1 blk off (lay d i (d.toList.drop j)) := by rw [hW1']; exact holds_putRow encI _ blk off d _ (holds_ahead encI w 1 blk off d hH) (lay_size _ _ _)
    have hcl : ∀ ty, (Builtin.clear_ #[22] ty #[.slice (some ⟨blk, off + (i + (d.size - j)), none⟩) (d.size - (i + (d.size - j))) (cap - (i + (d.size - j)))]).run Try.prog W1 = .ok (.tuple #[]) (W1.setCells blk (off + (i + (d.size - j))) (List.replicate (d.size - (i + (d.size - j))) (encI 0))) :=
      fun ty => Lib.run_clear_slice (P := Try.prog) W1 _ _ ty _ Try.und22 Try.zero3 rfl rfl blk (off + (i + (d.size - j))) _ _ (by omega) (fun t ht => by rw [show off + (i + (d.size - j)) + t = off + (i + (d.size - j) + t) by omega, (hH1 _ (by rw [lay_size]; omega)).1]; rfl) (fun t ht => by rw [show off + (i + (d.size - j)) + t = off + (i + (d.size - j) + t) by omega]; exact (hH1 _ (by rw [lay_size]; omega)).2)
    have X : Aside (W1 = putRow encI (Sort.ahead w 1) blk off (lay d i (d.toList.drop j))) := hW1'
    have hW : Hid (W1 = w.drew.setCells blk (off + i * 1) news) := hW1
    have hic : i ≤ cap := by omega
    have hjc : j ≤ cap := by omega
    clear hW1 hW1' hH1 hH hget hnews hlen
    go_enter Try.func93, Try.ntmps93
    go_wp2_with fail
    go_region_law (refine step_append_room (P := Try.prog) rfl (.tmp 22) (.tmp 25) 22 rfl 3 i0 1 Try.und22 hi0 hz1 blk off i cap (by simp [Act.eval, Act.put]) A (d.size - j) (cap - j) news (by simp [Act.eval, Act.put]) s1.out hsrc.out s2.out (by omega) s3.out ?_; rw [← hW.out])
    go_wp2
    go_ret
    refine ⟨by rw [show d.size - (j - i) = i + (d.size - j) by omega]; rfl, 1, ?_⟩
    rw [← delete_arr d i j 0 hij hj, ← putRow_setCells encI _ blk off _ _ (i + (d.size - j)) (by rw [lay_size]; simp; omega), ← X.out, List.map_replicate, show d.size - (i + (d.size - j)) = j - i by omega]


theorem row_block' {W W' : World} {base : Nat} {v : Value} {l : List Int} (h : OwnInts W base v l) (hb : ∀ g, v.ownBlock = some g → W'.heap[g]? = W.heap[g]?) : OwnInts W' base v l := by
  refine ⟨h.1, ?_⟩
  rcases h.2 with h0 | ⟨g, cap, cur, rfl, hg, hh, hn, hm, hs, ht⟩
  · exact .inl h0
  · exact .inr ⟨g, cap, cur, rfl, hg, (hb g rfl).trans hh, hn, hm, hs, ht⟩

/-- slices.Delete of one number of a slice of one's own. -/
theorem delete_any (g cap i j : Nat) (l : List Int) (w : World) (hH : Holds encI w g 0 l.toArray) (hcap : l.length ≤ cap) (hm : cap ≤ 9223372036854775807) (hj : j = i + 1) (hi : i < l.length) :
    Calls Try.prog 93 #[.slice (some ⟨g, 0, none⟩) l.length cap, .int .i64 i, .int .i64 j] w fun e w' => e = .returned (.slice (some ⟨g, 0, none⟩) (l.take i ++ l.drop (i + 1)).length cap) ∧
      Holds encI w' g 0 (l.take i ++ l.drop (i + 1)).toArray ∧ Near (fun k => k = g) w w' := by
  subst hj
  have hlen : (l.take i ++ l.drop (i + 1)).length = l.length - (i + 1 - i) := by simp; omega
  have h := delete_arr_any g 0 cap i (i + 1) l.toArray w hH (by simpa using hcap) hm (by omega) (by simp; omega)
  refine (show Calls Try.prog 93 _ w _ from h).mono ?_
  rintro e w' ⟨rfl, q, rfl⟩
  have hs : (l.take i ++ l.drop (i + 1) ++ List.replicate (i + 1 - i) (0 : Int)).toArray.size = l.toArray.size := by simp; omega
  refine ⟨by rw [hlen]; simp, fun k hk => ?_, ?_⟩
  · have hk' : k < (l.take i ++ l.drop (i + 1)).length := by simpa using hk
    have h2 := holds_putRow encI (Sort.ahead w q) g 0 l.toArray _ (holds_ahead encI w q g 0 l.toArray hH) hs k (by simp at hk' ⊢; omega)
    have e : (l.take i ++ l.drop (i + 1) ++ List.replicate (i + 1 - i) (0 : Int)).toArray[k]! = (l.take i ++ l.drop (i + 1)).toArray[k]! := by
      rw [getElem!_pos _ k (by simp at hk' ⊢; omega), getElem!_pos _ k (by simpa using hk'), List.getElem_toArray, List.getElem_toArray, List.getElem_append_left hk']
    rw [e] at h2
    simpa using h2
  · refine ⟨rfl, rfl, rfl, ?_, fun k hk hne => ?_⟩
    · simp [putRow, mapBlock, Sort.ahead]
    · show (Array.modify _ g _)[k]? = _
      rw [Array.getElem?_modify, if_neg (fun e => hne e.symm)]
      rfl

theorem indexG_ge (x : Int) : ∀ (l : List Int) (i : Int), 0 ≤ i → indexG x i l < 0 ∨ (i ≤ indexG x i l ∧ indexG x i l < i + l.length)
  | [], i, h => .inl (by simp [indexG])
  | a :: r, i, h => by
    unfold indexG
    split
    · exact .inr ⟨by omega, by simp; omega⟩
    · rcases indexG_ge x r (i + 1) (by omega) with h1 | h1
      · exact .inl h1
      · exact .inr ⟨by omega, by simp; omega⟩

/-- What Foreign goes through: what is left of the drawn places, the number of the count, the counts, what was found. -/
def forG : List Int → Int → List Cnt → List Int → List Int
  | _, _, [], out => out
  | left, i, c :: r, out => if indexG c.place 0 left < 0 then forG left (i + 1) r (out ++ [i]) else forG (left.take (indexG c.place 0 left).toNat ++ left.drop ((indexG c.place 0 left).toNat + 1)) (i + 1) r out

/-- The slice of what is left, in its block. -/
def LeftAt (W : World) (p : Option Addr) (c lo hi : Nat) (left : List Int) : Prop := left ≠ [] → ∃ g, p = some ⟨g, 0, none⟩ ∧ lo ≤ g ∧ g < hi ∧ left.length ≤ c ∧ c ≤ 9223372036854775807 ∧ Holds encI W g 0 left.toArray

theorem LeftAt.ints {W : World} {p : Option Addr} {c lo hi : Nat} {left : List Int} (h : LeftAt W p c lo hi left) : IntsAt W p left.length left := by
  refine ⟨rfl, fun i hi => ?_⟩
  have hne : left ≠ [] := by rintro rfl; simp at hi
  obtain ⟨g, rfl, _, _, _, _, hH⟩ := h hne
  refine ⟨g, 0, rfl, ?_⟩
  have := (hH i (by simpa using hi)).1
  rw [this, getElem!_pos _ i (by simpa using hi), List.getElem_toArray, List.getElem?_eq_getElem hi]
  rfl
theorem LeftAt.below {W W' : World} {p : Option Addr} {c lo hi : Nat} {left : List Int} (h : LeftAt W p c lo hi left) (hb : Below hi W W') (_hs : hi ≤ W.heap.size) : LeftAt W' p c lo hi left := fun hne => by
  obtain ⟨g, hp, h1, h2, h3, h4, hH⟩ := h hne
  exact ⟨g, hp, h1, h2, h3, h4, fun k hk => ⟨(hb.cell (p := ⟨g, 0 + k, none⟩) h2).trans (hH k hk).1, (hb.frozen (p := ⟨g, 0 + k, none⟩) h2).trans (hH k hk).2⟩⟩

theorem OwnInts.left {W : World} {base : Nat} {p : Option Addr} {n c : Nat} {l : List Int} (h : OwnInts W base (.slice p n c) l) : n = l.length ∧ LeftAt W p c base W.heap.size l := by
  rcases h.2 with ⟨h1, h0⟩ | ⟨g, cap, cur, h1, hg, hh, hn, hm, hs, ht⟩
  · cases h1
    exact ⟨h0.symm, fun hne => absurd (List.length_eq_zero_iff.1 h0) hne⟩
  · cases h1
    refine ⟨rfl, fun hne => ⟨g, rfl, hg, (Array.getElem?_eq_some_iff.1 hh).1, by omega, by unfold maxLen at hm; omega, holds_of_blockI hh ?_⟩⟩
    rw [Nat.mul_one] at ht
    exact ht

end Go.Proofs.Ytlicijnaacdceaa
