/- Foreign. No condition. -/
import Derived.Test.YtlicijnaacdceaaProZG
namespace Go.Proofs.Ytlicijnaacdceaa
open Go.RowKit
open Go.Sort (Holds)

def foreignE (r cc : Int) (l : List Int) (seed step draws : Int) (cs : List Cnt) : Int := if drawE r cc l seed step draws = 0 then (if 6 < cs.length then 3 else 0) else drawE r cc l seed step draws
def foreignV (r cc : Int) (l : List Int) (seed step draws : Int) (cs : List Cnt) : List Int := if foreignE r cc l seed step draws cs = 0 then forG (drawV r cc l seed step draws) 0 cs [] else []

theorem ret2_nil {w w' : World} {E E' : Int} {L : List Int} (hE : E = E') (hL : L = []) (hb : Below w.heap.size w w') : RetInts2 w L E' (.returned (.tuple #[.slice none 0 0, .int .i64 E])) w' := ⟨_, by rw [hE], by rw [hL]; exact ownInts_nil _ _, hb⟩

theorem LeftAt.cut {W W' : World} {p : Option Addr} {c lo hi g : Nat} {left left' : List Int} (h : LeftAt W p c lo hi left) (hne : left ≠ []) (hp : p = some ⟨g, 0, none⟩) (hl : left'.length ≤ left.length) (hH : Holds encI W' g 0 left'.toArray) : LeftAt W' p c lo hi left' := fun _ => by
  obtain ⟨g', hp', h1, h2, h3, h4, _⟩ := h hne
  rw [hp] at hp'; cases hp'
  exact ⟨g, hp, h1, h2, by omega, h4, hH⟩

theorem drawV_len (r cc : Int) (l : List Int) (seed step draws : Int) : (drawV r cc l seed step draws).length ≤ 9 := by
  unfold drawV
  split
  · rename_i h
    unfold drawE at h
    split at h
    · split at h
      · rename_i h2
        simp only [isLotB, inB, Bool.and_eq_true, decide_eq_true_eq] at h2
        rw [drawL, draw_len]
        simp
        omega
      · cases h
    · cases h
  · simp

set_option maxRecDepth 20000 in
set_option maxHeartbeats 8000000 in
theorem Foreign_any (r cc : Int) (p : Option Addr) (n c : Nat) (l : List Int) (seed step draws : Int) (q : Option Addr) (m d : Nat) (cs : List Cnt) (w : World) (hl : IntsAt w p n l) (hn : n ≤ 1000000) (hcs : CntsAt w q m cs) (hm : m ≤ 1000) :
    Calls Try.prog 58 #[.agg #[.int .i64 r, .int .i64 cc, .slice p n c], .agg #[.int .i64 seed, .int .i64 step, .int .i64 draws], .slice q m d] w (RetInts2 w (foreignV r cc l seed step draws cs) (foreignE r cc l seed step draws cs)) := by
  have HD := hid (fun W (hW : Below w.heap.size w W) => Draw_any r cc p n c l seed step draws W (hl.below hW) hn)
  have HE := hid (show foreignE r cc l seed step draws cs = if drawE r cc l seed step draws = 0 then (if 6 < m then 3 else 0) else drawE r cc l seed step draws by rw [hcs.1]; rfl)
  have HV := hid (show foreignV r cc l seed step draws cs = if foreignE r cc l seed step draws cs = 0 then forG (drawV r cc l seed step draws) 0 cs [] else [] from rfl)
  have HCS := hid hcs
  have HXL := hid (drawV_len r cc l seed step draws)
  clear hl hcs
  generalize foreignV r cc l seed step draws cs = V at *
  generalize foreignE r cc l seed step draws cs = E at *
  generalize drawV r cc l seed step draws = X at *
  generalize drawE r cc l seed step draws = D at *
  by_cases hD : D = 0
  · subst hD
    go_enter Try.func58, Try.ntmps58
    go_wp2_with fail
    refine (HD.out _ (((Below.refl _ _).alloc (Nat.le_refl _) _).alloc (by simp) _)).mono ?_
    rintro e w1 ⟨v, rfl, ho, hb⟩
    have HB1 : Hid (Below (w.heap.size + 2) ((w.alloc (.cells #[.int .i64 r, .int .i64 cc, .slice p n c] 33)).alloc (.cells #[.int .i64 seed, .int .i64 step, .int .i64 draws] 87)) w1) := hb.mono (by simp)
    have hbw : Below w.heap.size w w1 := (((Below.refl _ _).alloc (Nat.le_refl _) _).alloc (by simp) _).trans (HB1.out.mono (by omega))
    have HBW := hid hbw
    obtain ⟨pL, cL, hvL, hiL⟩ := ho.slice
    subst hvL
    have hlf := ho.left.2
    have hlo : LeftAt w1 pL cL (w.heap.size + 2) w1.heap.size X := by simpa using hlf
    have HLO := hid hlo
    clear hb hbw ho hiL hlf hlo
    by_cases h6 : 6 < m
    · have h6i : (6 : Int) < m := by omega
      go_wp2_with fail
      go_ret2
      have hE3 : E = 3 := by rw [HE.out]; simp [h6]
      exact ret2_nil hE3.symm (by rw [HV.out, hE3]; rfl) HBW.out
    · have h6i : ¬ (6 : Int) < m := by omega
      have hE0 : E = 0 := by rw [HE.out]; simp [h6]
      have HE0 := hid hE0
      have HVF : Hid (V = forG X 0 cs []) := by show _ = _; rw [HV.out, hE0]; rfl
      clear hE0
      obtain ⟨B, hB⟩ : ∃ B, w1.heap.size = B := ⟨_, rfl⟩
      have hBw : w.heap.size + 2 ≤ B := by have := HB1.out.size; simp at this; omega
      rw [hB] at HLO
      have HBB := hid hB
      clear hB
      go_wp2_with fail
      go_loopw [8, 10, 28] (fun u v i wr => ∃ (k : Nat) (left out : List Int), k ≤ m ∧ i = .int .i64 k ∧ u = .slice pL left.length cL ∧ LeftAt wr pL cL (w.heap.size + 2) B left ∧ OwnInts wr B v out ∧ out.length ≤ k ∧ left.length ≤ X.length ∧ forG left k (cs.drop k) out = forG X 0 cs [] ∧ Below (w.heap.size + 2) w1 wr) (fun _ _ i _ => m - (intOf i).toNat)
      case atStart => exact ⟨0, X, [], by omega, rfl, rfl, HLO.out, ownInts_nil _ _, by simp, Nat.le_refl _, rfl, Below.refl _ _⟩
      case round =>
        obtain ⟨k, left, out, hk, rfl, rfl, hlf, ho, hol, hll, hr, hbr⟩ := hrel
        have HLF := hid hlf; have HO := hid ho; have HOL := hid hol; have HLL := hid hll; have HR := hid hr; have HBR := hid hbr
        have HBS : Hid (B ≤ wr.heap.size) := by show B ≤ _; rw [← HBB.out]; exact hbr.size
        clear hlf ho hol hll hr hbr
        by_cases hlt : k < m
        · obtain ⟨x, hx, bq, oq, rfl, hbq, hc0, hc1, hc2, hc3⟩ := (HCS.out.below (HBW.out.trans (HBR.out.mono (by omega)))).at hlt
          have HDK := hid (drop_cnt hx)
          clear hx
          have HI := hid HLF.out.ints
          have hX9 : left.length ≤ 1000000 := by have := HLL.out; have := HXL.out; omega
          have HX9 := hid hX9
          clear hX9
          go_wp2_with fail
          refine (index_any _ _ _ left x.place _ (HI.out.alloc _) HX9.out).mono ?_
          rintro e w' ⟨rfl, rfl⟩
          have HZ := hid (indexG_ge x.place left 0 (by omega))
          have HR2 : Hid ((if indexG x.place 0 left < 0 then forG left (k + 1) (cs.drop (k + 1)) (out ++ [(k : Int)]) else forG (left.take (indexG x.place 0 left).toNat ++ left.drop ((indexG x.place 0 left).toNat + 1)) (k + 1) (cs.drop (k + 1)) out) = forG X 0 cs []) := by
            have h := HR.out; rw [HDK.out, forG] at h; exact h
          generalize indexG x.place 0 left = z at *
          have HBS2 : Hid (B ≤ (wr.alloc (.cells #[.int .i64 x.place, .int .i64 x.lo, .int .i64 x.hi, .bool x.late] 101)).heap.size) := by show B ≤ _; rw [World.size_alloc]; have := HBS.out; omega
          have HB2 : Hid (Below (w.heap.size + 2) w1 (wr.alloc (.cells #[.int .i64 x.place, .int .i64 x.lo, .int .i64 x.hi, .bool x.late] 101))) := HBR.out.alloc (by have := HBB.out; have := HBR.out.size; omega) _
          have HO2 := hid (OwnInts.below HO.out ((Below.refl _ _).alloc (Nat.le_refl _) (.cells #[.int .i64 x.place, .int .i64 x.lo, .int .i64 x.hi, .bool x.late] 101)))
          have HLF2 := hid (HLF.out.below ((Below.refl _ _).alloc HBS.out (.cells #[.int .i64 x.place, .int .i64 x.lo, .int .i64 x.hi, .bool x.late] 101)) HBS.out)
          by_cases hz : z < 0
          · have HRN : Hid (forG left ((k + 1 : Nat) : Int) (cs.drop (k + 1)) (out ++ [(k : Int)]) = forG X 0 cs []) := by have h := HR2.out; rw [if_pos hz] at h; rw [← h]; rfl
            have hok : out.length ≤ 1000000 := by have := HOL.out; omega
            clear hc0 hc1 hc2 hc3
            go_wp2_with (at_builtin; refine append_int (by rfl) _ _ (by rfl) B _ out (k : Int) HO2.out (by rfl) (by rw [World.size_alloc]; rfl) hok HBS2.out ?_; intro v3 w3 hv3 hb3)
            go_roundw
            case rel => exact ⟨k + 1, left, out ++ [(k : Int)], by omega, by go_num, by simp, HLF2.out.below hb3 HBS2.out, hv3, by have := HOL.out; simp; omega, HLL.out, HRN.out, HB2.out.trans (hb3.mono hBw)⟩
            case measure => simp [intOf]; omega
          · obtain ⟨z, rfl⟩ : ∃ z' : Nat, z = z' := ⟨z.toNat, by omega⟩
            have hzl : z < left.length := by have := HZ.out; omega
            have hne : left ≠ [] := by rintro rfl; simp at hzl
            have HRN : Hid (forG (left.take z ++ left.drop (z + 1)) ((k + 1 : Nat) : Int) (cs.drop (k + 1)) out = forG X 0 cs []) := by have h := HR2.out; rw [if_neg hz, Int.toNat_natCast] at h; rw [← h]; rfl
            obtain ⟨g, hpg, hg1, hg2, hg3, hg4, hgH⟩ := HLF2.out hne
            have HGH := hid hgH
            have HNE := hid hne; have HPG := hid hpg; have HLE : Hid ((left.take z ++ left.drop (z + 1)).length ≤ left.length) := by show _ ≤ _; simp; omega
            have hzb : z ≤ 1000000 := by have := HX9.out; omega
            have e1 : IntKind.i64.wrap ((z : Int) + 1) = ((z + 1 : Nat) : Int) := by rw [IntWalk.i64_in _ (by omega)]; omega
            clear hgH hne hpg hz hc0 hc1 hc2 hc3
            go_wp2_with fail
            try rw [e1]
            have hdel := delete_any g cL z (z + 1) left _ HGH.out hg3 hg4 rfl hzl
            rw [← HPG.out] at hdel
            refine hdel.mono ?_
            clear hdel
            rintro e w3 ⟨rfl, hH3, hn3⟩
            have ho3 := row_block' HO2.out (fun u hu => hn3.block u (World.ownsRow.lt HO2.out u hu).2 (by intro e; have h1 := (World.ownsRow.lt HO2.out u hu).1; omega))
            have hb3 : Below (w.heap.size + 2) w1 w3 := HB2.out.trans (hn3.below (by have h1 := HBS2.out; omega) (fun k hk e => by omega))
            go_wp2
            go_roundw
            case rel => exact ⟨k + 1, left.take z ++ left.drop (z + 1), out, by omega, by go_num, by simp, HLF2.out.cut HNE.out HPG.out HLE.out hH3, ho3, by have := HOL.out; omega, Nat.le_trans HLE.out HLL.out, HRN.out, hb3⟩
            case measure => simp [intOf]; omega
        · have HF : Hid (out = forG X 0 cs []) := by show _ = _; rw [← HR.out, List.drop_of_length_le (by have := HCS.out.1; omega)]; rfl
          go_wp2_with fail
          go_ret2
          exact ⟨_, by rw [HE0.out]; rfl, by rw [HVF.out, ← HF.out]; exact HO.out.mono (by omega), HBW.out.trans (HBR.out.mono (by omega))⟩
  · have hDb : (D != 0) = true := by simp [hD]
    have hDe : (D == 0) = false := by simp [hD]
    have hEb : E = D := by rw [HE.out]; simp [hD]
    have HED := hid hEb
    have HDN : Hid (¬ D = 0) := hD
    clear hD hEb
    go_enter Try.func58, Try.ntmps58
    go_wp2_with fail
    refine (HD.out _ (((Below.refl _ _).alloc (Nat.le_refl _) _).alloc (by simp) _)).mono ?_
    rintro e w1 ⟨v, rfl, ho, hb⟩
    have HB1 : Hid (Below (w.heap.size + 2) ((w.alloc (.cells #[.int .i64 r, .int .i64 cc, .slice p n c] 33)).alloc (.cells #[.int .i64 seed, .int .i64 step, .int .i64 draws] 87)) w1) := hb.mono (by simp)
    have hbw : Below w.heap.size w w1 := (((Below.refl _ _).alloc (Nat.le_refl _) _).alloc (by simp) _).trans (HB1.out.mono (by omega))
    have HBW := hid hbw
    clear hb hbw ho
    go_wp2_with fail
    go_ret2
    exact ret2_nil HED.out.symm (by rw [HV.out, HED.out, if_neg HDN.out]) HBW.out
end Go.Proofs.Ytlicijnaacdceaa
