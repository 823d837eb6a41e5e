/- Package treaty: states as keys of a map; amounts, states, results and a programme at work in their boxes. No condition. -/
import Derived.Test.YtaioobhblfnlaaaMap
import Derived.Test.YtaioobhblfnlaaaB11
namespace Go.Proofs.Ytaioobhblfnlaaa
open Go.RowKit

theorem Try.types_big2 : 180 < Try.prog.types.size := by decide +kernel
theorem Try.key163 : Maps.Keyed Try.prog 163 := Maps.Keyed.of_law (deep_law_laid Try.laidOut (m := 4) (by decide) (Nat.le_trans (by decide) (Nat.le_of_lt Try.types_big2)) (by kernel_rfl) (by kernel_rfl))
theorem Try.keyType163 : Try.prog.keyType 163 = true := by kernel_rfl
theorem Try.cellsOf163 : Try.prog.cellsOf 163 = 6 := by kernel_rfl
theorem Try.cellsOf116 : Try.prog.cellsOf 116 = 5 := by kernel_rfl
/-- Numbers that are small. -/
def Small (a : Int) : Prop := -1000000 ≤ a ∧ a ≤ 1000000
theorem keyLits_116 (d : Nat) (f : Nat → Int) (h : ∀ i, Small (f i)) : Try.prog.keyLits (d + 1 + 1) 116 [.int .i64 (f 0), .int .i64 (f 1), .int .i64 (f 2), .int .i64 (f 3), .int .i64 (f 4)] = some [.int .i64 (f 0), .int .i64 (f 1), .int .i64 (f 2), .int .i64 (f 3), .int .i64 (f 4)] := by
  unfold Program.keyLits
  rw [Try.underlying116]
  simp [Try.cellsOf116, Try.cells3, List.range_succ, keyLits_int3 d _ (h 0), keyLits_int3 d _ (h 1), keyLits_int3 d _ (h 2), keyLits_int3 d _ (h 3), keyLits_int3 d _ (h 4)]
theorem keyLits_163 (d : Nat) (a : Int) (f : Nat → Int) (ha : Small a) (h : ∀ i, Small (f i)) : Try.prog.keyLits (d + 1 + 1 + 1) 163 [.int .i64 a, .int .i64 (f 0), .int .i64 (f 1), .int .i64 (f 2), .int .i64 (f 3), .int .i64 (f 4)] = some [.int .i64 a, .int .i64 (f 0), .int .i64 (f 1), .int .i64 (f 2), .int .i64 (f 3), .int .i64 (f 4)] := by
  have h1 := keyLits_116 d f h
  have h2 := keyLits_int3 (d + 1) a ha
  unfold Program.keyLits
  rw [Try.underlying163]
  simp [Try.cellsOf163, Try.cellsOf116, Try.cells3, h1, h2]
/-- The value of a state; its cells; those of a result, of amounts. -/
def staC (a : Int) (f : Nat → Int) : Array Value := #[.int .i64 a, .int .i64 (f 0), .int .i64 (f 1), .int .i64 (f 2), .int .i64 (f 3), .int .i64 (f 4)]
def resC (f : Nat → Int) (k : Int) : Array Value := #[.int .i64 (f 0), .int .i64 (f 1), .int .i64 (f 2), .int .i64 (f 3), .int .i64 (f 4), .int .i64 k]
def amoC (f : Nat → Int) : Array Value := #[.int .i64 (f 0), .int .i64 (f 1), .int .i64 (f 2), .int .i64 (f 3), .int .i64 (f 4)]
def staV (a : Int) (f : Nat → Int) : Value := .agg (staC a f)
theorem staV_inj {a b : Int} {f g : Nat → Int} (h : staV a f = staV b g) : a = b ∧ ∀ i, i < 5 → f i = g i := by
  simp [staV, staC] at h
  refine ⟨h.1, fun i hi => ?_⟩
  match i, hi with
  | 0, _ => exact h.2.1
  | 1, _ => exact h.2.2.1
  | 2, _ => exact h.2.2.2.1
  | 3, _ => exact h.2.2.2.2.1
  | 4, _ => exact h.2.2.2.2.2
theorem key_sta (a : Int) (f : Nat → Int) (ha : Small a) (h : ∀ i, Small (f i)) : ∃ kl, keyOf Try.prog 163 (staV a f) = some kl := by
  have hf : Value.formed Try.prog 163 (staV a f) = true := by simp [staV, staC, Value.formed, Try.underlying163, Try.cellsOf163]
  obtain ⟨m, hm⟩ : ∃ m, Try.prog.types.size = m + 2 := ⟨Try.prog.types.size - 2, by have := Try.types_big; omega⟩
  refine ⟨.string (keyBytes [.int .i64 a, .int .i64 (f 0), .int .i64 (f 1), .int .i64 (f 2), .int .i64 (f 3), .int .i64 (f 4)]), ?_⟩
  rw [keyOf, Try.underlying163]
  have h1 := keyLits_163 m a f ha h
  simp only [Try.keyType163, hf, Bool.and_self, if_true, hm]
  simp only [staV, staC, Value.cells]
  first | (rw [h1]; rfl) | (rw [keyLits_163 m a f ha h]; rfl)
theorem resC_get {f : Nat → Int} {k : Int} {i : Nat} (hi : i < 5) : (resC f k)[i]? = some (.int .i64 (f i)) := by
  match i, hi with
  | 0, _ => rfl
  | 1, _ => rfl
  | 2, _ => rfl
  | 3, _ => rfl
  | 4, _ => rfl
theorem amoC_get {f : Nat → Int} {i : Nat} (hi : i < 5) : (amoC f)[i]? = some (.int .i64 (f i)) := by
  match i, hi with
  | 0, _ => rfl
  | 1, _ => rfl
  | 2, _ => rfl
  | 3, _ => rfl
  | 4, _ => rfl
theorem staC_get {f : Nat → Int} {a : Int} {i : Nat} (hi : i < 5) : (staC a f)[1 + i]? = some (.int .i64 (f i)) := by
  match i, hi with
  | 0, _ => rfl
  | 1, _ => rfl
  | 2, _ => rfl
  | 3, _ => rfl
  | 4, _ => rfl
theorem resC_set {f : Nat → Int} {k z : Int} {i : Nat} (hi : i < 5) : (resC f k).setIfInBounds i (.int .i64 z) = resC (updI f i z) k := by
  match i, hi with
  | 0, _ => rfl
  | 1, _ => rfl
  | 2, _ => rfl
  | 3, _ => rfl
  | 4, _ => rfl
theorem resC_kept {f : Nat → Int} {k z : Int} : (resC f k).setIfInBounds 5 (.int .i64 z) = resC f z := rfl
theorem amoC_set {f : Nat → Int} {z : Int} {i : Nat} (hi : i < 5) : (amoC f).setIfInBounds i (.int .i64 z) = amoC (updI f i z) := by
  match i, hi with
  | 0, _ => rfl
  | 1, _ => rfl
  | 2, _ => rfl
  | 3, _ => rfl
  | 4, _ => rfl
theorem BoxIs.res {b : Nat} {f : Nat → Int} {k : Int} {W : World} (h : BoxIs b (resC f k) W) {i : Nat} (hi : i < 5) : W.cell? ⟨b, i, none⟩ = some (.int .i64 (f i)) ∧ W.frozen? ⟨b, i, none⟩ = false := h.2 i _ (resC_get hi)
theorem BoxIs.kept {b : Nat} {f : Nat → Int} {k : Int} {W : World} (h : BoxIs b (resC f k) W) : W.cell? ⟨b, 5, none⟩ = some (.int .i64 k) ∧ W.frozen? ⟨b, 5, none⟩ = false := h.2 5 _ rfl
theorem BoxIs.amo {b : Nat} {f : Nat → Int} {W : World} (h : BoxIs b (amoC f) W) {i : Nat} (hi : i < 5) : W.cell? ⟨b, i, none⟩ = some (.int .i64 (f i)) ∧ W.frozen? ⟨b, i, none⟩ = false := h.2 i _ (amoC_get hi)
theorem BoxIs.sta {b : Nat} {a : Int} {f : Nat → Int} {W : World} (h : BoxIs b (staC a f) W) {i : Nat} (hi : i < 5) : W.cell? ⟨b, 1 + i, none⟩ = some (.int .i64 (f i)) ∧ W.frozen? ⟨b, 1 + i, none⟩ = false := h.2 (1 + i) _ (staC_get hi)
theorem BoxIs.setRes {b : Nat} {f : Nat → Int} {k : Int} {W : World} (h : BoxIs b (resC f k) W) {i : Nat} (hi : i < 5) (z : Int) : BoxIs b (resC (updI f i z) k) (W.setCell ⟨b, i, none⟩ (.int .i64 z)) := by
  have h1 := h.put (j := i) (.int .i64 z); rwa [resC_set hi] at h1
theorem BoxIs.setKept {b : Nat} {f : Nat → Int} {k : Int} {W : World} (h : BoxIs b (resC f k) W) (z : Int) : BoxIs b (resC f z) (W.setCell ⟨b, 5, none⟩ (.int .i64 z)) := h.put (j := 5) (.int .i64 z)
theorem BoxIs.setAmo {b : Nat} {f : Nat → Int} {W : World} (h : BoxIs b (amoC f) W) {i : Nat} (hi : i < 5) (z : Int) : BoxIs b (amoC (updI f i z)) (W.setCell ⟨b, i, none⟩ (.int .i64 z)) := by
  have h1 := h.put (j := i) (.int .i64 z); rwa [amoC_set hi] at h1
theorem near_one {S : Nat → Prop} {W : World} {b o : Nat} (h : S b) (v : Value) : Near S W (W.setCell ⟨b, o, none⟩ v) := (Near.refl S W).setCell (p := ⟨b, o, none⟩) (fun _ => h) v

/-- The cells of a programme at work: which treaties are there; the map. -/
def workC (p : Prg) (lp : Option Addr) (ln lc : Nat) (tp : Option Addr) (tn tc : Nat) (rp : Option Addr) (rn rc : Nat) (th : Nat → Bool) (bm : Nat) : Array Value := #[.slice lp ln lc, .int .i64 p.reserve, .slice tp tn tc, .slice rp rn rc, .bool (th 0), .bool (th 1), .bool (th 2), .bool (th 3), .bool (th 4), .map (some bm)]
theorem workC_th {p : Prg} {lp : Option Addr} {ln lc : Nat} {tp : Option Addr} {tn tc : Nat} {rp : Option Addr} {rn rc : Nat} {th : Nat → Bool} {bm i : Nat} (hi : i < 5) : (workC p lp ln lc tp tn tc rp rn rc th bm)[4 + i]? = some (.bool (th i)) := by
  match i, hi with
  | 0, _ => rfl
  | 1, _ => rfl
  | 2, _ => rfl
  | 3, _ => rfl
  | 4, _ => rfl
theorem ph1_pd {ts : List Tre} {th : Nat → Bool} {f g : Nat → Int} (h : ∀ i, i < ts.length → f i = g i) (loss : Int) : ∀ k, ph1 ts th f loss k = ph1 ts th g loss k
  | 0 => rfl
  | k + 1 => by
    rw [ph1, ph1, ph1_pd h loss k]
    cases hk : ts[k]? with
    | none => rfl
    | some t => simp only [tk1, h k (List.getElem?_eq_some_iff.1 hk).1]
theorem ph2_pd {ts : List Tre} {f g n : Nat → Int} (h : ∀ i, i < ts.length → f i = g i) : ∀ k, ph2 ts f n k = ph2 ts g n k
  | 0 => rfl
  | k + 1 => by
    rw [ph2, ph2, ph2_pd h k]
    cases hk : ts[k]? with
    | none => rfl
    | some t => simp only [tk2, h k (List.getElem?_eq_some_iff.1 hk).1]
theorem now_pd {ts : List Tre} {th : Nat → Bool} {f g : Nat → Int} (h : ∀ i, i < ts.length → f i = g i) (a : Int) : nowO ts th f a = nowO ts th g a ∧ keptO ts th f a = keptO ts th g a := by
  unfold nowO keptO
  rw [ph1_pd h, ph2_pd h]; exact ⟨rfl, rfl⟩
theorem resC_ext {f g : Nat → Int} {k : Int} (h : ∀ i, i < 5 → f i = g i) : resC f k = resC g k := by
  unfold resC
  rw [h 0 (by omega), h 1 (by omega), h 2 (by omega), h 3 (by omega), h 4 (by omega)]
theorem staC_ext {f g : Nat → Int} {k : Int} (h : ∀ i, i < 5 → f i = g i) : staC k f = staC k g := by
  unfold staC
  rw [h 0 (by omega), h 1 (by omega), h 2 (by omega), h 3 (by omega), h 4 (by omega)]
/-- What is known of states is so. -/
def oneP (ts : List Tre) (th : Nat → Bool) (a : Int) (f : Nat → Int) : Nat → Int := fun i => f i + nowO ts th f a i
def Knows (ts : List Tre) (th : Nat → Bool) (M : Value → Option Value) : Prop := ∀ a f v, PdOk ts f 1000000 → M (staV a f) = some v → v = .agg (resC (oneP ts th a f) (keptO ts th f a))
theorem Knows.upd {ts : List Tre} {th : Nat → Bool} {M : Value → Option Value} (h : Knows ts th M) (hn : ts.length ≤ 5) (a : Int) (f : Nat → Int) : Knows ts th (updM M (staV a f) (.agg (resC (oneP ts th a f) (keptO ts th f a)))) := by
  intro b g v hg hv
  unfold updM at hv
  split at hv
  · rename_i e
    obtain ⟨e1, e2⟩ := staV_inj e
    subst e1
    have e3 := now_pd (ts := ts) (th := th) (f := g) (g := f) (fun i hi => e2 i (by omega)) b
    rw [← Option.some.inj hv, e3.2]
    refine congrArg Value.agg (resC_ext fun i hi => ?_)
    unfold oneP
    rw [e3.1, e2 i hi]
  · exact h b g v hg hv
end Go.Proofs.Ytaioobhblfnlaaa
