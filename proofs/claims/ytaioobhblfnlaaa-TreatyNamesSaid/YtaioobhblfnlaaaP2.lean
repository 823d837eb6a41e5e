/- Package treaty: a programme at work; what happens at a loss, with what is known. No condition but a valid programme and small numbers. -/
import Derived.Test.YtaioobhblfnlaaaP1
namespace Go.Proofs.Ytaioobhblfnlaaa
open Go.RowKit

def updB (f : Nat → Bool) (k : Nat) (v : Bool) : Nat → Bool := fun i => if i = k then v else f i
theorem workC_set {p : Prg} {lp : Option Addr} {ln lc : Nat} {tp : Option Addr} {tn tc : Nat} {rp : Option Addr} {rn rc : Nat} {th : Nat → Bool} {bm i : Nat} {v : Bool} (hi : i < 5) : (workC p lp ln lc tp tn tc rp rn rc th bm).setIfInBounds (4 + i) (.bool v) = workC p lp ln lc tp tn tc rp rn rc (updB th i v) bm := by
  match i, hi with
  | 0, _ => rfl
  | 1, _ => rfl
  | 2, _ => rfl
  | 3, _ => rfl
  | 4, _ => rfl
theorem workC_ext {p : Prg} {lp : Option Addr} {ln lc : Nat} {tp : Option Addr} {tn tc : Nat} {rp : Option Addr} {rn rc : Nat} {f g : Nat → Bool} {bm : Nat} (h : ∀ i, i < 5 → f i = g i) : workC p lp ln lc tp tn tc rp rn rc f bm = workC p lp ln lc tp tn tc rp rn rc g bm := by
  unfold workC
  rw [h 0 (by omega), h 1 (by omega), h 2 (by omega), h 3 (by omega), h 4 (by omega)]
/-- A programme at work: what comes back. -/
def WorkPost (p : Prg) (lp : Option Addr) (ln lc : Nat) (tp : Option Addr) (tn tc : Nat) (rp : Option Addr) (rn rc : Nat) (w : World) : Ending → World → Prop := fun e w' =>
  e = .returned (.pointer (some ⟨w.heap.size + 2, 0, none⟩)) ∧ BoxIs (w.heap.size + 2) (workC p lp ln lc tp tn tc rp rn rc allT (w.heap.size + 1)) w' ∧ MapV w' 163 (w.heap.size + 1) 0 (fun _ => none) ∧ Below w.heap.size w w'

set_option maxRecDepth 40000 in
set_option maxHeartbeats 4000000 in
theorem work_any (p : Prg) (lp : Option Addr) (ln lc : Nat) (tp : Option Addr) (tn tc : Nat) (rp : Option Addr) (rn rc : Nat) (w : World) : Calls Try.prog 65 #[.agg #[.slice lp ln lc, .int .i64 p.reserve, .slice tp tn tc, .slice rp rn rc]] w (WorkPost p lp ln lc tp tn tc rp rn rc w) := by
  have hmm := @run_makeMap Try.prog
  obtain ⟨W1, hW1⟩ : ∃ V, ((w.alloc (.cells #[.slice lp ln lc, .int .i64 p.reserve, .slice tp tn tc, .slice rp rn rc] 37)).alloc (.map #[] 0)).alloc (.cells (workC p lp ln lc tp tn tc rp rn rc (fun _ => false) (w.heap.size + 1)) 146) = V := ⟨_, rfl⟩
  have HX : Hid (BoxIs (w.heap.size + 2) (workC p lp ln lc tp tn tc rp rn rc (fun i => decide (i < 0)) (w.heap.size + 1)) W1) := by
    show BoxIs _ _ _
    have h := BoxIs.start ((w.alloc (.cells #[.slice lp ln lc, .int .i64 p.reserve, .slice tp tn tc, .slice rp rn rc] 37)).alloc (.map #[] 0)) (workC p lp ln lc tp tn tc rp rn rc (fun _ => false) (w.heap.size + 1)) 146
    rw [hW1, World.size_alloc, World.size_alloc] at h
    rwa [workC_ext (g := fun _ => false) (fun i _ => by simp)]
  have HM : Hid (MapV W1 163 (w.heap.size + 1) 0 (fun _ => none)) := by
    have h := MapV.made (w.alloc (.cells #[.slice lp ln lc, .int .i64 p.reserve, .slice tp tn tc, .slice rp rn rc] 37)) 163
    rw [World.size_alloc] at h
    show MapV _ _ _ _ _
    rw [← hW1]
    exact h.below ((Below.refl _ _).alloc (Nat.le_refl _) _)
  have HB : Hid (Below w.heap.size w W1) := by show Below _ _ _; rw [← hW1]; exact ((((Below.refl _ _).alloc (Nat.le_refl _) _).alloc (by simp) _).alloc (by simp only [World.size_alloc]; omega) _)
  unfold workC at hW1
  go_enter Try.func65, Try.ntmps65
  go_wp2_with fail
  clear hW1 hmm
  go_loopw [10] (fun i wr => ∃ k : Nat, k ≤ 5 ∧ i = .int .i64 k ∧ BoxIs (w.heap.size + 2) (workC p lp ln lc tp tn tc rp rn rc (fun i => decide (i < k)) (w.heap.size + 1)) wr ∧ MapV wr 163 (w.heap.size + 1) 0 (fun _ => none) ∧ Below w.heap.size w wr) (fun i _ => 5 - (intOf i).toNat)
  case atStart => exact ⟨0, by omega, rfl, HX.out, HM.out, HB.out⟩
  case round =>
    clear HX HM HB
    obtain ⟨k, hk, rfl, hx, hm, hb⟩ := hrel
    have HX := hid hx; have HM := hid hm; have HB := hid hb
    clear hx hm hb
    by_cases hlt : k < 5
    · have hk6 : (k : Int) < 5 := by omega
      have ⟨c1, f1⟩ := HX.out.2 (4 + k) _ (workC_th hlt)
      have HX2 := hid (HX.out.put (j := 4 + k) (.bool true))
      rw [workC_set hlt, workC_ext (g := fun i => decide (i < k + 1)) (fun i _ => by unfold updB; by_cases e : i = k <;> simp [e] <;> omega)] at HX2
      have hn : Near (fun i => i = w.heap.size + 2) wr _ := near_one (S := fun i => i = w.heap.size + 2) (W := wr) (b := w.heap.size + 2) (o := 4 + k) rfl (.bool true)
      have HM2 := hid (HM.out.kept (hn.block _ HM.out.lt (by omega)))
      have HB2 := hid (HB.out.trans (hn.below HB.out.size (fun i hi e => by omega)))
      clear hn
      go_wp2_with fail
      go_roundw
      case rel => exact ⟨k + 1, by omega, by go_num, HX2.out, HM2.out, HB2.out⟩
      case measure => simp [intOf]; omega
    · have HX2 : Hid (BoxIs (w.heap.size + 2) (workC p lp ln lc tp tn tc rp rn rc allT (w.heap.size + 1)) wr) := hid (by have h := HX.out; rwa [workC_ext (g := allT) (fun i hi => by simp [allT]; omega)] at h)
      go_wp2_with fail
      go_ret
      exact ⟨rfl, HX2.out, HM.out, HB.out⟩

/-- What comes back: what is paid after a loss and what is kept of it; a map that knows it. -/
def OnePost (ts : List Tre) (th : Nat → Bool) (a : Int) (f : Nat → Int) (bm nn : Nat) (w : World) : Ending → World → Prop := fun e w' =>
  e = .returned (.agg (resC (oneP ts th a f) (keptO ts th f a))) ∧ ∃ M', MapV w' 163 bm (nn + 1) M' ∧ Knows ts th M' ∧ Near (fun k => k = bm) w w'
theorem Try.zero118 (w : World) : (zeroValue 118).run Try.prog w = .ok (.agg #[.int .i64 0, .int .i64 0, .int .i64 0, .int .i64 0, .int .i64 0, .int .i64 0]) w := by kernel_rfl
theorem add_upd {pd nf : Nat → Int} {k : Nat} {n : Int} (h : nf k = 0) : updI (fun i => pd i + nf i) k (pd k + nf k + n) = fun i => pd i + updI nf k n i := by
  funext i
  unfold updI
  by_cases e : i = k
  · subst e; rw [if_pos rfl, if_pos rfl, h]; omega
  · rw [if_neg e, if_neg e]

set_option maxRecDepth 100000 in
set_option maxHeartbeats 16000000 in
theorem one_any (p : Prg) (lp : Option Addr) (ln lc : Nat) (tp : Option Addr) (tn tc : Nat) (rp : Option Addr) (rn rc : Nat) (th : Nat → Bool) (a : Int) (f : Nat → Int) (bw bm nn : Nat) (M : Value → Option Value) (w : World) (hp : RowsAt cellsT 7 w tp tn p.ts) (hwk : BoxIs bw (workC p lp ln lc tp tn tc rp rn rc th bm) w) (hm : MapV w 163 bm nn M) (hk : Knows p.ts th M) (hnn : nn < maxLen) (hts : OkTs p.ts) (hlen : p.ts.length ≤ 5)
    (ha : 0 ≤ a ∧ a ≤ 1000) (hpd : PdOk p.ts f 50000) :
    Calls Try.prog 107 #[.pointer (some ⟨bw, 0, none⟩), .agg #[.int .i64 a, .int .i64 (f 0), .int .i64 (f 1), .int .i64 (f 2), .int .i64 (f 3), .int .i64 (f 4)]] w (OnePost p.ts th a f bm nn w) := by
  have HWK := hid hwk; have HP := hid hp; have HM := hid hm; have HKN := hid hk; have HTS := hid hts
  have htn5 : tn ≤ 5 := by rw [hp.1]; exact hlen
  have HTN := hid hp.1
  have HPD := hid hpd
  have HBM : Hid (bw ≠ bm) := hid (hm.ne (hwk.2 9 (.map (some bm)) rfl).1)
  have hbl := hwk.1; have hml := hm.lt
  obtain ⟨kl, hkey⟩ := key_sta a f (show Small a from ⟨by omega, by omega⟩) (fun i => ⟨by have := hpd.lo i; omega, by have := hpd.hi i; omega⟩)
  have HKEY := hid hkey
  have HNN := hid hnn
  have HLEN := hid hlen
  clear hwk hp hm hk hts hkey hnn hlen hpd
  obtain ⟨W0, hW0⟩ : ∃ W, ((w.alloc (.cells #[.pointer (some ⟨bw, 0, none⟩)] 119)).alloc (.cells (staC a f) 163)).alloc (.cells #[.int .i64 0, .int .i64 0, .int .i64 0, .int .i64 0, .int .i64 0, .int .i64 0] 118) = W := ⟨_, rfl⟩
  have HB0 : Hid (Below w.heap.size w W0) := by show Below _ _ _; rw [← hW0]; exact ((((Below.refl _ _).alloc (Nat.le_refl _) _).alloc (by simp) _).alloc (by simp only [World.size_alloc]; omega) _)
  have HA0 : Hid (BoxIs (w.heap.size) #[.pointer (some ⟨bw, 0, none⟩)] W0) := by show BoxIs _ _ _; rw [← hW0]; exact ((BoxIs.start _ _ _).below ((Below.refl _ _).alloc (Nat.le_refl _) _)).below ((Below.refl _ _).alloc (Nat.le_refl _) _)
  have HS0 : Hid (BoxIs (w.heap.size + 1) (staC a f) W0) := by
    show BoxIs _ _ _
    have h := BoxIs.start (w.alloc (.cells #[.pointer (some ⟨bw, 0, none⟩)] 119)) (staC a f) 163
    rw [World.size_alloc] at h
    rw [← hW0]
    exact h.below ((Below.refl _ _).alloc (Nat.le_refl _) _)
  have HR0 : Hid (BoxIs (w.heap.size + 2) #[.int .i64 0, .int .i64 0, .int .i64 0, .int .i64 0, .int .i64 0, .int .i64 0] W0) := by
    show BoxIs _ _ _
    have h := BoxIs.start ((w.alloc (.cells #[.pointer (some ⟨bw, 0, none⟩)] 119)).alloc (.cells (staC a f) 163)) #[.int .i64 0, .int .i64 0, .int .i64 0, .int .i64 0, .int .i64 0, .int .i64 0] 118
    rw [hW0, World.size_alloc, World.size_alloc] at h; exact h
  have HZ0 : Hid (W0.heap.size = w.heap.size + 3) := by show _ = _; rw [← hW0]; simp
  unfold staC at hW0
  have HW0 := hid (HWK.out.below HB0.out); have HM0 := hid (HM.out.below HB0.out)
  obtain ⟨v, kp, ok, hlv⟩ : ∃ (v : Nat → Int) (kp : Int) (ok : Bool), (∀ V, MapV V 163 bm nn M → (Instr.lookup 144 (.map (some bm)) (staV a f) true).run Try.prog V = .ok (.tuple #[.agg (resC v kp), .bool ok]) V) ∧ (ok = true → resC v kp = resC (oneP p.ts th a f) (keptO p.ts th f a)) := by
    cases hM : M (staV a f) with
    | none => exact ⟨zeroF, 0, false, fun V hV => by have h := hV.look Try.key163 Try.underlying144 (Try.zero118 V) HKEY.out; rw [hM] at h; exact h, (by intro h; cases h)⟩
    | some u => exact ⟨oneP p.ts th a f, keptO p.ts th f a, true, fun V hV => by have h := hV.look Try.key163 Try.underlying144 (Try.zero118 V) HKEY.out; rw [hM] at h; rw [h, HKN.out _ _ _ ⟨fun i => HPD.out.lo i, fun i => by have := HPD.out.hi i; omega, HPD.out.cap⟩ hM]; rfl, fun _ => rfl⟩
  have HLV := hid hlv.1; have HVV := hid hlv.2
  clear hlv
  unfold staV staC resC at HLV
  go_enter Try.func107, Try.ntmps107
  go_upto_region 1 with fail
  clear hW0
  refine wp_region_held_drew (S := fun V => Below w.heap.size w V ∧ BoxIs (w.heap.size) #[.pointer (some ⟨bw, 0, none⟩)] V ∧ BoxIs (w.heap.size + 1) (staC a f) V ∧ MapV V 163 bm nn M) (by kernel_rfl) (⟨HB0.out.drew, HA0.out, HS0.out, HM0.out.below (Below.refl _ _).drew⟩) (fun hS => ?_)
  simp only [List.size_toArray, List.length_cons, List.length_nil, Nat.reduceAdd, Array.replicate_succ, Array.replicate_zero, List.push_toArray, List.nil_append, List.cons_append]
  refine tkH (i := 0) (v := ?_) (fun V hV => ?_) ?_
  rotate_left
  · have c0 := (hV.2.1.2 0 (.pointer (some ⟨bw, 0, none⟩)) rfl).1; go_simp
    try with_reducible rfl
  try simp only [Act.put, List.getElem_toArray, List.getElem_cons_zero, List.setIfInBounds_toArray, List.set_cons_zero, List.set_cons_succ]
  refine tkH (i := 1) (v := ?_) (fun V hV => ?_) ?_
  rotate_left
  · go_simp
    try with_reducible rfl
  try simp only [Act.put, List.getElem_toArray, List.getElem_cons_zero, List.getElem_cons_succ, List.setIfInBounds_toArray, List.set_cons_zero, List.set_cons_succ]
  refine tkH (i := 2) (v := ?_) (fun V hV => ?_) ?_
  rotate_left
  · go_simp
    try with_reducible rfl
  try simp only [Act.put, List.getElem_toArray, List.getElem_cons_zero, List.getElem_cons_succ, List.setIfInBounds_toArray, List.set_cons_zero, List.set_cons_succ]
  refine tkH (i := 3) (v := ?_) (fun V hV => ?_) ?_
  rotate_left
  · have c0 := ((HWK.out.below hV.1).2 9 (.map (some bm)) rfl).1; go_simp
    try with_reducible rfl
  try simp only [Act.put, List.getElem_toArray, List.getElem_cons_zero, List.getElem_cons_succ, List.setIfInBounds_toArray, List.set_cons_zero, List.set_cons_succ]
  refine tkH (i := 4) (v := ?_) (fun V hV => ?_) ?_
  rotate_left
  · have c0 := (hV.2.2.1.2 0 (.int .i64 a) rfl).1; have c1 := (hV.2.2.1.2 1 (.int .i64 (f 0)) rfl).1; have c2 := (hV.2.2.1.2 2 (.int .i64 (f 1)) rfl).1; have c3 := (hV.2.2.1.2 3 (.int .i64 (f 2)) rfl).1; have c4 := (hV.2.2.1.2 4 (.int .i64 (f 3)) rfl).1; have c5 := (hV.2.2.1.2 5 (.int .i64 (f 4)) rfl).1; go_simp
    try with_reducible rfl
  try simp only [Act.put, List.getElem_toArray, List.getElem_cons_zero, List.getElem_cons_succ, List.setIfInBounds_toArray, List.set_cons_zero, List.set_cons_succ]
  refine tkH (i := 5) (v := ?_) (fun V hV => ?_) ?_
  rotate_left
  · have c0 := HLV.out V hV.2.2.2; go_simp
    try with_reducible rfl
  try simp only [Act.put, List.getElem_toArray, List.getElem_cons_zero, List.getElem_cons_succ, List.setIfInBounds_toArray, List.set_cons_zero, List.set_cons_succ]
  refine tkH (i := 6) (v := ?_) (fun V hV => ?_) ?_
  rotate_left
  · go_simp
    try with_reducible rfl
  try simp only [Act.put, List.getElem_toArray, List.getElem_cons_zero, List.getElem_cons_succ, List.setIfInBounds_toArray, List.set_cons_zero, List.set_cons_succ]
  refine tkH (i := 7) (v := ?_) (fun V hV => ?_) ?_
  rotate_left
  · go_simp
    try with_reducible rfl
  try simp only [Act.put, List.getElem_toArray, List.getElem_cons_zero, List.getElem_cons_succ, List.setIfInBounds_toArray, List.set_cons_zero, List.set_cons_succ]
  refine tkH (i := 8) (v := ?_) (fun V hV => ?_) ?_
  rotate_left
  · go_simp
    try with_reducible rfl
  try simp only [Act.put, List.getElem_toArray, List.getElem_cons_zero, List.getElem_cons_succ, List.setIfInBounds_toArray, List.set_cons_zero, List.set_cons_succ]
  refine wpAnyH_ready (rs := [9]) (by kernel_rfl) (by simp) ?_
  refine AllReadyH.cons (o := _) rfl (fun K hK => ?_) AllReadyH.nil
  obtain ⟨V1, hV1⟩ : ∃ V, W0.drew.alloc (.cells #[.int .i64 0, .int .i64 0, .int .i64 0, .int .i64 0, .int .i64 0, .int .i64 0] 118) = V := ⟨_, rfl⟩
  have HX1 : Hid (BoxIs (w.heap.size + 3) #[.int .i64 0, .int .i64 0, .int .i64 0, .int .i64 0, .int .i64 0, .int .i64 0] V1) := by
    show BoxIs _ _ _
    have h := BoxIs.start W0.drew #[.int .i64 0, .int .i64 0, .int .i64 0, .int .i64 0, .int .i64 0, .int .i64 0] 118
    rw [hV1] at h
    have e : W0.drew.heap.size = w.heap.size + 3 := HZ0.out
    rw [e] at h; exact h
  have HB1 : Hid (Below W0.heap.size W0 V1) := by show Below _ _ _; rw [← hV1]; exact (Below.refl _ _).drew.alloc (Nat.le_refl _) _
  have HZE : Hid (W0.heap.size = w.heap.size + 3) := HZ0
  have hze := HZ0.out
  go_simp
  refine hK.out _ _ (⟨HB0.out.trans (HB1.out.mono HB0.out.size), HA0.out.below HB1.out, HS0.out.below HB1.out, HM0.out.below HB1.out⟩) (fun hS => ?_)
  clear hK K
  try simp only [List.setIfInBounds_toArray, List.set_cons_zero, List.set_cons_succ]
  refine wpAnyH_ready (rs := [10]) (by kernel_rfl) (by simp) ?_
  refine AllReadyH.cons (o := _) rfl (fun K hK => ?_) AllReadyH.nil
  have HZB : Hid (Below (w.heap.size + 3) W0 V1) := hid (by have h := HB1.out; rwa [HZ0.out] at h)
  have k0 := (HX1.out.2 0 (.int .i64 0) rfl).1; have g0 := (HX1.out.2 0 (.int .i64 0) rfl).2; have k1 := (HX1.out.2 1 (.int .i64 0) rfl).1; have g1 := (HX1.out.2 1 (.int .i64 0) rfl).2; have k2 := (HX1.out.2 2 (.int .i64 0) rfl).1; have g2 := (HX1.out.2 2 (.int .i64 0) rfl).2; have k3 := (HX1.out.2 3 (.int .i64 0) rfl).1; have g3 := (HX1.out.2 3 (.int .i64 0) rfl).2; have k4 := (HX1.out.2 4 (.int .i64 0) rfl).1; have g4 := (HX1.out.2 4 (.int .i64 0) rfl).2; have k5 := (HX1.out.2 5 (.int .i64 0) rfl).1; have g5 := (HX1.out.2 5 (.int .i64 0) rfl).2
  obtain ⟨V2, hV2⟩ : ∃ V, ((((((V1.setCell ⟨w.heap.size + 3, 0, none⟩ (.int .i64 (v 0))).setCell ⟨w.heap.size + 3, 1, none⟩ (.int .i64 (v 1))).setCell ⟨w.heap.size + 3, 2, none⟩ (.int .i64 (v 2))).setCell ⟨w.heap.size + 3, 3, none⟩ (.int .i64 (v 3))).setCell ⟨w.heap.size + 3, 4, none⟩ (.int .i64 (v 4))).setCell ⟨w.heap.size + 3, 5, none⟩ (.int .i64 kp)) = V := ⟨_, rfl⟩
  have HX2 : Hid (BoxIs (w.heap.size + 3) (resC v kp) V2) := by show BoxIs _ _ _; rw [← hV2]; exact ((((((HX1.out.put (j := 0) (.int .i64 (v 0))).put (j := 1) (.int .i64 (v 1))).put (j := 2) (.int .i64 (v 2))).put (j := 3) (.int .i64 (v 3))).put (j := 4) (.int .i64 (v 4))).put (j := 5) (.int .i64 kp))
  have HB2 : Hid (Below W0.heap.size W0 V2) := by show Below _ _ _; rw [← hV2, HZ0.out]; exact ((((((HZB.out.setCell (p := ⟨w.heap.size + 3, 0, none⟩) (Nat.le_refl _) _).setCell (p := ⟨w.heap.size + 3, 1, none⟩) (Nat.le_refl _) _).setCell (p := ⟨w.heap.size + 3, 2, none⟩) (Nat.le_refl _) _).setCell (p := ⟨w.heap.size + 3, 3, none⟩) (Nat.le_refl _) _).setCell (p := ⟨w.heap.size + 3, 4, none⟩) (Nat.le_refl _) _).setCell (p := ⟨w.heap.size + 3, 5, none⟩) (Nat.le_refl _) _)
  go_simp
  refine hK.out _ _ (⟨HB0.out.trans (HB2.out.mono HB0.out.size), HA0.out.below HB2.out, HS0.out.below HB2.out, HM0.out.below HB2.out⟩) (fun hS => ?_)
  clear hK K
  try simp only [List.setIfInBounds_toArray, List.set_cons_zero, List.set_cons_succ]
  refine tkH (i := 11) (v := ?_) (fun V hV => ?_) ?_
  rotate_left
  · go_simp
    try with_reducible rfl
  try simp only [Act.put, List.getElem_toArray, List.getElem_cons_zero, List.getElem_cons_succ, List.setIfInBounds_toArray, List.set_cons_zero, List.set_cons_succ]
  refine wpAnyH_done (by kernel_rfl) ?_ _
  clear hS hV2 hze
  have HW2 := hid (HW0.out.below HB2.out); have HM2 := hid (HM0.out.below HB2.out); have HA2 := hid (HA0.out.below HB2.out); have HS2 := hid (HS0.out.below HB2.out); have HR2 := hid (HR0.out.below HB2.out); have HBB2 := hid (HB0.out.trans (HB2.out.mono HB0.out.size)); have HZ2 : Hid (w.heap.size + 4 ≤ V2.heap.size) := hid HX2.out.1
  clear HX1 HB1 HB2 HM0 HW0 HA0 HS0 HR0 HB0 HLV HZB HZE hV1 k0 k1 k2 k3 k4 k5 g0 g1 g2 g3 g4 g5
  cases ok
  rotate_left
  · have hvv := HVV.out rfl
    have k0 := (HX2.out.2 0 (.int .i64 (v 0)) rfl).1; have k1 := (HX2.out.2 1 (.int .i64 (v 1)) rfl).1; have k2 := (HX2.out.2 2 (.int .i64 (v 2)) rfl).1; have k3 := (HX2.out.2 3 (.int .i64 (v 3)) rfl).1; have k4 := (HX2.out.2 4 (.int .i64 (v 4)) rfl).1; have k5 := (HX2.out.2 5 (.int .i64 kp) rfl).1
    have z0 := (HR2.out.2 0 (.int .i64 0) rfl).1; have y0 := (HR2.out.2 0 (.int .i64 0) rfl).2; have z1 := (HR2.out.2 1 (.int .i64 0) rfl).1; have y1 := (HR2.out.2 1 (.int .i64 0) rfl).2; have z2 := (HR2.out.2 2 (.int .i64 0) rfl).1; have y2 := (HR2.out.2 2 (.int .i64 0) rfl).2; have z3 := (HR2.out.2 3 (.int .i64 0) rfl).1; have y3 := (HR2.out.2 3 (.int .i64 0) rfl).2; have z4 := (HR2.out.2 4 (.int .i64 0) rfl).1; have y4 := (HR2.out.2 4 (.int .i64 0) rfl).2; have z5 := (HR2.out.2 5 (.int .i64 0) rfl).1; have y5 := (HR2.out.2 5 (.int .i64 0) rfl).2
    have HY := hid (((((((HR2.out.put (j := 0) (.int .i64 (v 0))).put (j := 1) (.int .i64 (v 1))).put (j := 2) (.int .i64 (v 2))).put (j := 3) (.int .i64 (v 3))).put (j := 4) (.int .i64 (v 4))).put (j := 5) (.int .i64 kp)))
    have HNY : Hid (Near (fun i => i = w.heap.size + 2) V2 ((((((V2.setCell ⟨w.heap.size + 2, 0, none⟩ (.int .i64 (v 0))).setCell ⟨w.heap.size + 2, 1, none⟩ (.int .i64 (v 1))).setCell ⟨w.heap.size + 2, 2, none⟩ (.int .i64 (v 2))).setCell ⟨w.heap.size + 2, 3, none⟩ (.int .i64 (v 3))).setCell ⟨w.heap.size + 2, 4, none⟩ (.int .i64 (v 4))).setCell ⟨w.heap.size + 2, 5, none⟩ (.int .i64 kp))) := hid ((((((near_one (W := V2) (b := w.heap.size + 2) (o := 0) (S := fun i => i = w.heap.size + 2) rfl (.int .i64 (v 0))).setCell (p := ⟨w.heap.size + 2, 1, none⟩) (fun _ => rfl) (.int .i64 (v 1))).setCell (p := ⟨w.heap.size + 2, 2, none⟩) (fun _ => rfl) (.int .i64 (v 2))).setCell (p := ⟨w.heap.size + 2, 3, none⟩) (fun _ => rfl) (.int .i64 (v 3))).setCell (p := ⟨w.heap.size + 2, 4, none⟩) (fun _ => rfl) (.int .i64 (v 4))).setCell (p := ⟨w.heap.size + 2, 5, none⟩) (fun _ => rfl) (.int .i64 kp))
    go_wp2_with fail
    generalize ((((((V2.setCell ⟨w.heap.size + 2, 0, none⟩ (.int .i64 (v 0))).setCell ⟨w.heap.size + 2, 1, none⟩ (.int .i64 (v 1))).setCell ⟨w.heap.size + 2, 2, none⟩ (.int .i64 (v 2))).setCell ⟨w.heap.size + 2, 3, none⟩ (.int .i64 (v 3))).setCell ⟨w.heap.size + 2, 4, none⟩ (.int .i64 (v 4))).setCell ⟨w.heap.size + 2, 5, none⟩ (.int .i64 kp)) = W9 at HY HNY ⊢
    clear k0 z0 y0 k1 z1 y1 k2 z2 y2 k3 z3 y3 k4 z4 y4 k5 z5 y5
    have x0 := (HY.out.2 0 (.int .i64 (v 0)) rfl).1; have x1 := (HY.out.2 1 (.int .i64 (v 1)) rfl).1; have x2 := (HY.out.2 2 (.int .i64 (v 2)) rfl).1; have x3 := (HY.out.2 3 (.int .i64 (v 3)) rfl).1; have x4 := (HY.out.2 4 (.int .i64 (v 4)) rfl).1; have x5 := (HY.out.2 5 (.int .i64 kp) rfl).1
    refine bodyPost_ret (v := .agg (resC v kp)) (by simp [resC, results, Try.f107, go_sem, x0, x1, x2, x3, x4, x5]) rfl ?_
    refine ⟨by rw [hvv], M, ?_, HKN.out, ?_⟩
    · exact (HM2.out.kept (HNY.out.block _ HM2.out.lt (by omega))).more (by omega)
    · exact (Near.of_below (S := fun k => k = bm) HBB2.out (fun i h1 h2 => by omega)).trans' HNY.out (fun i h1 h2 => by omega)
  go_upto_region 4 with fail
  obtain ⟨vd, hwd⟩ : ∃ V, V2.drew = V := ⟨_, rfl⟩
  have HND : Hid (Near (fun i => i = w.heap.size + 3) V2 vd) := hid (by rw [← hwd]; exact (Near.refl _ _).drew)
  have HX3 : Hid (BoxIs (w.heap.size + 3) (resC v kp) vd) := hid (by rw [← hwd]; exact HX2.out.below (Below.refl _ _).drew)
  refine wp_region_held_drew (S := fun V => Near (fun i => i = w.heap.size + 3) V2 V) (by kernel_rfl) (by rw [hwd]; exact HND.out) (fun hS => ?_)
  rw [hwd] at hS ⊢
  clear hwd
  simp only [List.size_toArray, List.length_cons, List.length_nil, Nat.reduceAdd, Array.replicate_succ, Array.replicate_zero, List.push_toArray, List.nil_append, List.cons_append]
  refine tkH (i := 0) (v := ?_) (fun V hV => ?_) ?_
  rotate_left
  · go_simp
    try with_reducible rfl
  try simp only [Act.put, List.getElem_toArray, List.getElem_cons_zero, List.setIfInBounds_toArray, List.set_cons_zero, List.set_cons_succ]
  refine tkH (i := 1) (v := ?_) (fun V hV => ?_) ?_
  rotate_left
  · have c1 := ((HS2.out.far hV (by omega)).2 1 (.int .i64 (f 0)) rfl).1; have c2 := ((HS2.out.far hV (by omega)).2 2 (.int .i64 (f 1)) rfl).1; have c3 := ((HS2.out.far hV (by omega)).2 3 (.int .i64 (f 2)) rfl).1; have c4 := ((HS2.out.far hV (by omega)).2 4 (.int .i64 (f 3)) rfl).1; have c5 := ((HS2.out.far hV (by omega)).2 5 (.int .i64 (f 4)) rfl).1; go_simp
    try with_reducible rfl
  try simp only [Act.put, List.getElem_toArray, List.getElem_cons_zero, List.getElem_cons_succ, List.setIfInBounds_toArray, List.set_cons_zero, List.set_cons_succ]
  refine tkH (i := 2) (v := ?_) (fun V hV => ?_) ?_
  rotate_left
  · go_simp
    try with_reducible rfl
  try simp only [Act.put, List.getElem_toArray, List.getElem_cons_zero, List.getElem_cons_succ, List.setIfInBounds_toArray, List.set_cons_zero, List.set_cons_succ]
  refine tkH (i := 3) (v := ?_) (fun V hV => ?_) ?_
  rotate_left
  · have c0 := ((HS2.out.far hV (by omega)).2 0 (.int .i64 a) rfl).1; go_simp
    try with_reducible rfl
  try simp only [Act.put, List.getElem_toArray, List.getElem_cons_zero, List.getElem_cons_succ, List.setIfInBounds_toArray, List.set_cons_zero, List.set_cons_succ]
  refine tkH (i := 4) (v := ?_) (fun V hV => ?_) ?_
  rotate_left
  · go_simp
    try with_reducible rfl
  try simp only [Act.put, List.getElem_toArray, List.getElem_cons_zero, List.getElem_cons_succ, List.setIfInBounds_toArray, List.set_cons_zero, List.set_cons_succ]
  refine wpAnyH_ready (rs := [5]) (by kernel_rfl) (by simp) ?_
  refine AllReadyH.cons (o := _) rfl (fun K hK => ?_) AllReadyH.nil
  have k0 := (HX3.out.2 0 (.int .i64 (v 0)) rfl).1; have g0 := (HX3.out.2 0 (.int .i64 (v 0)) rfl).2; have k1 := (HX3.out.2 1 (.int .i64 (v 1)) rfl).1; have g1 := (HX3.out.2 1 (.int .i64 (v 1)) rfl).2; have k2 := (HX3.out.2 2 (.int .i64 (v 2)) rfl).1; have g2 := (HX3.out.2 2 (.int .i64 (v 2)) rfl).2; have k3 := (HX3.out.2 3 (.int .i64 (v 3)) rfl).1; have g3 := (HX3.out.2 3 (.int .i64 (v 3)) rfl).2; have k4 := (HX3.out.2 4 (.int .i64 (v 4)) rfl).1; have g4 := (HX3.out.2 4 (.int .i64 (v 4)) rfl).2
  obtain ⟨V3, hV3⟩ : ∃ V, (((((vd.setCell ⟨w.heap.size + 3, 0, none⟩ (.int .i64 (f 0))).setCell ⟨w.heap.size + 3, 1, none⟩ (.int .i64 (f 1))).setCell ⟨w.heap.size + 3, 2, none⟩ (.int .i64 (f 2))).setCell ⟨w.heap.size + 3, 3, none⟩ (.int .i64 (f 3))).setCell ⟨w.heap.size + 3, 4, none⟩ (.int .i64 (f 4))) = V := ⟨_, rfl⟩
  have HX4 : Hid (BoxIs (w.heap.size + 3) (resC f kp) V3) := by show BoxIs _ _ _; rw [← hV3]; exact (((((HX3.out.put (j := 0) (.int .i64 (f 0))).put (j := 1) (.int .i64 (f 1))).put (j := 2) (.int .i64 (f 2))).put (j := 3) (.int .i64 (f 3))).put (j := 4) (.int .i64 (f 4)))
  have hn3 : Near (fun i => i = w.heap.size + 3) V2 V3 := by rw [← hV3]; exact ((((HND.out.setCell (p := ⟨w.heap.size + 3, 0, none⟩) (fun _ => rfl) _).setCell (p := ⟨w.heap.size + 3, 1, none⟩) (fun _ => rfl) _).setCell (p := ⟨w.heap.size + 3, 2, none⟩) (fun _ => rfl) _).setCell (p := ⟨w.heap.size + 3, 3, none⟩) (fun _ => rfl) _).setCell (p := ⟨w.heap.size + 3, 4, none⟩) (fun _ => rfl) _
  go_simp
  clear k0 g0 k1 g1 k2 g2 k3 g3 k4 g4
  refine hK.out _ _ (hn3) (fun hS => ?_)
  clear hK K
  try simp only [List.setIfInBounds_toArray, List.set_cons_zero, List.set_cons_succ]
  refine tkH (i := 6) (v := ?_) (fun V hV => ?_) ?_
  rotate_left
  · go_simp
    try with_reducible rfl
  try simp only [Act.put, List.getElem_toArray, List.getElem_cons_zero, List.getElem_cons_succ, List.setIfInBounds_toArray, List.set_cons_zero, List.set_cons_succ]
  refine wpAnyH_ready (rs := [7]) (by kernel_rfl) (by simp) ?_
  refine AllReadyH.cons (o := _) rfl (fun K hK => ?_) AllReadyH.nil
  have ⟨c1, f1⟩ := HX4.out.kept
  obtain ⟨V4, hV4⟩ : ∃ V, V3.setCell ⟨w.heap.size + 3, 5, none⟩ (.int .i64 a) = V := ⟨_, rfl⟩
  have HX5 : Hid (BoxIs (w.heap.size + 3) (resC f a) V4) := by show BoxIs _ _ _; rw [← hV4]; exact HX4.out.setKept _
  have hn4 : Near (fun i => i = w.heap.size + 3) V2 V4 := by rw [← hV4]; exact hn3.setCell (p := ⟨w.heap.size + 3, 5, none⟩) (fun _ => rfl) _
  go_simp
  clear c1 f1
  refine hK.out _ _ (hn4) (fun hS => ?_)
  clear hK K
  try simp only [List.setIfInBounds_toArray, List.set_cons_zero, List.set_cons_succ]
  refine wpAnyH_done (by kernel_rfl) ?_ _
  have HN4 := hid hn4
  clear hS hV3 hV4 hn3 hn4
  have HW4 := hid (HW2.out.far HN4.out (by omega)); have HM4 := hid (HM2.out.kept (HN4.out.block _ HM2.out.lt (by omega))); have HA4 := hid (HA2.out.far HN4.out (by omega)); have HS4 := hid (HS2.out.far HN4.out (by omega)); have HR4 := hid (HR2.out.far HN4.out (by omega)); have HBB4 := hid (HBB2.out.trans (HN4.out.below (by have := HZ2.out; omega) (fun i hi e => by omega))); have HZ4 : Hid (w.heap.size + 4 ≤ V4.heap.size) := hid HX5.out.1
  clear HX2 HX3 HX4 HW2 HM2 HA2 HS2 HR2 HBB2 HZ2 HN4
  have hmf : ∀ (fn : Fn) (first cap : Array Value) (w : World), (Instr.makeFunc fn first cap).run Try.prog w = .ok (.func fn first cap) w := fun _ _ _ _ => rfl
  obtain ⟨V5, hV5⟩ : ∃ V, V4.alloc (.cells #[.int .i64 0, .int .i64 0, .int .i64 0, .int .i64 0, .int .i64 0] 116) = V := ⟨_, rfl⟩
  have hb5 : Below V4.heap.size V4 V5 := by rw [← hV5]; exact (Below.refl _ _).alloc (Nat.le_refl _) _
  have HQ5 : Hid (BoxIs V4.heap.size (amoC zeroF) V5) := by show BoxIs _ _ _; rw [← hV5]; exact BoxIs.start _ _ _
  have HW5 := hid (HW4.out.below hb5); have HM5 := hid (HM4.out.below hb5); have HA5 := hid (HA4.out.below hb5); have HS5 := hid (HS4.out.below hb5); have HR5 := hid (HR4.out.below hb5); have HX6 := hid (HX5.out.below hb5); have HBB5 := hid (HBB4.out.trans (hb5.mono HBB4.out.size))
  clear hb5 HX5 HW4 HM4 HA4 HS4 HR4 HBB4
  have c0 := (HA5.out.2 0 (.pointer (some ⟨bw, 0, none⟩)) rfl).1; have c1 := (HW5.out.2 2 (.slice tp tn tc) rfl).1
  go_wp2_with fail
  clear c0 c1 hV5
  have HFAR : Hid (∀ {b : Nat} {vs : Array Value} {W : World}, Near (fun i => i = w.heap.size + 3 ∨ i = V4.heap.size) V5 W → BoxIs b vs V5 → b ≠ w.heap.size + 3 → b ≠ V4.heap.size → BoxIs b vs W) := hid (fun hn hx h1 h2 => hx.far hn (by rintro (h | h); exact h1 h; exact h2 h))
  have HBEL : Hid (∀ {W : World}, Near (fun i => i = w.heap.size + 3 ∨ i = V4.heap.size) V5 W → Below w.heap.size w W) := hid (fun hn => HBB5.out.trans (hn.below HBB5.out.size (fun i hi hs => by have := HZ4.out; rcases hs with hs | hs <;> omega)))
  go_loopw [37] (fun i wr => ∃ k : Nat, k ≤ tn ∧ i = .int .i64 k ∧ BoxIs V4.heap.size (amoC (ph1 p.ts th f a k).2) wr ∧ BoxIs (w.heap.size + 3) (resC (fun i => f i + (ph1 p.ts th f a k).2 i) (ph1 p.ts th f a k).1) wr ∧ Near (fun i => i = w.heap.size + 3 ∨ i = V4.heap.size) V5 wr) (fun i _ => tn - (intOf i).toNat)
  case atStart => exact ⟨0, by omega, rfl, HQ5.out, by have h := HX6.out; rwa [resC_ext (g := fun i => f i + (ph1 p.ts th f a 0).2 i) (fun i _ => by simp [ph1])] at h, Near.refl _ _⟩
  case round =>
    clear HQ5 HX6
    obtain ⟨k, hk, rfl, hq, hx, hn⟩ := hrel
    have HQ := hid hq; have HX := hid hx; have HN := hid hn
    clear hq hx hn
    by_cases hlt : k < tn
    · obtain ⟨t, ht, b1, o1, rfl, hb1, hd0, hd1, hd2, hd3, hd4, hd5, hd6⟩ := (HP.out.below (HBEL.out HN.out)).tre hlt
      have htv := HTS.out k t ht
      have HTV := hid htv.1
      have HT := hid ht
      have hpl := HPD.out.lo k; have hph := HPD.out.hi k
      have HSU := hid (ph1_succ (th := th) (pd := f) (loss := a) ht)
      have HPH := hid (ph1_ok HTS.out th HPD.out ha.1 k (by have := HTN.out; omega))
      have HTB0 := hid (takes_bd htv.1 (n := (ph1 p.ts th f a k).1) (bf := f k) HPH.out.k0 (HPD.out.cap k t ht))
      have hk0 := HPH.out.k0; have hk1 := HPH.out.k1; have hn0 := HPH.out.zero k (Nat.le_refl _)
      clear ht htv
      obtain ⟨kq, hkq⟩ : ∃ z, (ph1 p.ts th f a k).1 = z := ⟨_, rfl⟩
      obtain ⟨nf, hnf⟩ : ∃ z, (ph1 p.ts th f a k).2 = z := ⟨_, rfl⟩
      have HSP : Hid (ph1 p.ts th f a k = (kq, nf)) := hid (by rw [← hkq, ← hnf])
      rw [hkq] at hk0 hk1 HTB0 HX
      rw [hnf] at hn0 HQ HX
      have HN0 := hid hn0
      have HNB : Hid (∀ i, 0 ≤ nf i ∧ nf i ≤ a) := hid (fun i => by rw [← hnf]; exact ⟨HPH.out.lo i, HPH.out.hi i⟩)
      clear hkq hnf hn0
      have HTB : Hid (0 ≤ takesT t kq (f k) ∧ takesT t kq (f k) ≤ kq) := hid ⟨HTB0.out.1, HTB0.out.2.1⟩
      clear HTB0
      obtain ⟨W6, hW6⟩ : ∃ V, wr.alloc (.cells #[.int .i64 t.kind, .int .i64 t.part, .int .i64 t.above, .int .i64 t.most, .int .i64 t.times, .int .i64 t.price, .int .i64 t.off] 87) = V := ⟨_, rfl⟩
      have hb6 : Below wr.heap.size wr W6 := by rw [← hW6]; exact (Below.refl _ _).alloc (Nat.le_refl _) _
      have HT6 : Hid (BoxIs wr.heap.size #[.int .i64 t.kind, .int .i64 t.part, .int .i64 t.above, .int .i64 t.most, .int .i64 t.times, .int .i64 t.price, .int .i64 t.off] W6) := by show BoxIs _ _ _; rw [← hW6]; exact BoxIs.start _ _ _
      have HN6 : Hid (Near (fun i => i = w.heap.size + 3 ∨ i = V4.heap.size) V5 W6) := hid (HN.out.trans (near_below hb6))
      have HQ6 := hid (HQ.out.below hb6); have HX7 := hid (HX.out.below hb6)
      clear hb6
      have f6 := (HT6.out.2 6 (.int .i64 t.off) rfl).1
      have HA6 := hid (HFAR.out HN6.out HA5.out (by omega) (by have := HZ4.out; omega)); have HW6 := hid (HFAR.out HN6.out HW5.out (by omega) (by have := HZ4.out; omega)); have HS6 := hid (HFAR.out HN6.out HS5.out (by omega) (by have := HZ4.out; omega))
      by_cases hoff : t.off < 0
      · have hki : k < 5 := by have := HTN.out; omega
        have hki2 : (k : Int) < 5 := by omega
        have c0 := (HA6.out.2 0 (.pointer (some ⟨bw, 0, none⟩)) rfl).1; have c1 := (HW6.out.2 (4 + k) _ (workC_th hki)).1
        cases hbk : th k
        · have HBK := hid hbk
          rw [hbk] at c1
          clear hbk
          have HF : Hid (ph1 p.ts th f a (k + 1) = (kq, nf)) := hid (by rw [HSU.out, HSP.out, tk1, if_neg (by rintro ⟨_, h⟩; rw [HBK.out] at h; cases h)])
          go_wp2_with fail
          go_roundw
          case rel => exact ⟨k + 1, by omega, by go_num, by rw [HF.out]; exact HQ6.out, by rw [HF.out]; exact HX7.out, HN6.out⟩
          case measure => simp [intOf]; omega
        · have HOB := hid (show t.off < 0 ∧ th k = true from ⟨hoff, hbk⟩)
          rw [hbk] at c1
          clear hbk
          go_wp2_with fail
          clear c0 c1 f6 hW6 hd0 hd1 hd2 hd3 hd4 hd5 hd6
          (with_reducible refine (take1_any p lp ln lc (some ⟨b1, o1, none⟩) tn tc rp rn rc th bm bw (w.heap.size) (w.heap.size + 1) (w.heap.size + 3) V4.heap.size k t a kq f (fun i => f i + nf i) nf w _ (HBEL.out HN6.out) HP.out HWK.out HA6.out HS6.out HX7.out HQ6.out (by have := HZ4.out; omega) HT.out htn5 HTV.out (by omega) (by omega) (by have := HNB.out k; show 0 ≤ f k + nf k ∧ f k + nf k ≤ _; omega) (by have := HTB.out; omega)).mono ?_)
          rintro e w7 ⟨⟨v7, rfl⟩, hq7, hx7, hn7⟩
          have HQ7 := hid hq7
          have HX8 : Hid (BoxIs (w.heap.size + 3) (resC (fun i => f i + updI nf k (takesT t kq (f k)) i) (kq - takesT t kq (f k))) w7) := hid (by have h := hx7; rw [add_upd HN0.out] at h; exact h)
          have HN7 : Hid (Near (fun i => i = w.heap.size + 3 ∨ i = V4.heap.size) V5 w7) := hid (HN6.out.trans hn7)
          clear hq7 hx7 hn7
          have HF : Hid (ph1 p.ts th f a (k + 1) = (kq - takesT t kq (f k), updI nf k (takesT t kq (f k)))) := hid (by rw [HSU.out, HSP.out, tk1, if_pos HOB.out])
          go_wp2_with fail
          go_roundw
          case rel => exact ⟨k + 1, by omega, by go_num, by rw [HF.out]; exact HQ7.out, by rw [HF.out]; exact HX8.out, HN7.out⟩
          case measure => simp [intOf]; omega
      · have hoff2 : ¬ t.off < 0 := hoff
        have HF : Hid (ph1 p.ts th f a (k + 1) = (kq, nf)) := hid (by rw [HSU.out, HSP.out, tk1, if_neg (by rintro ⟨h, _⟩; exact hoff2 h)])
        go_wp2_with fail
        go_roundw
        case rel => exact ⟨k + 1, by omega, by go_num, by rw [HF.out]; exact HQ6.out, by rw [HF.out]; exact HX7.out, HN6.out⟩
        case measure => simp [intOf]; omega
    · obtain rfl : tn = k := by omega
      have HKE : Hid ((ph1 p.ts th f a tn).1 = keptO p.ts th f a) := hid (by rw [keptO, ← HTN.out])
      obtain ⟨n1, hn1⟩ : ∃ z, (ph1 p.ts th f a tn).2 = z := ⟨_, rfl⟩
      have HN1 : Hid ((ph1 p.ts th f a p.ts.length).2 = n1) := hid (by rw [← HTN.out, hn1])
      obtain ⟨ke, hke⟩ : ∃ z, (ph1 p.ts th f a tn).1 = z := ⟨_, rfl⟩
      rw [hke] at HKE HX
      rw [hn1] at HQ HX
      clear hn1 hke hk
      have HA9 := hid (HFAR.out HN.out HA5.out (by omega) (by have := HZ4.out; omega)); have HW9 := hid (HFAR.out HN.out HW5.out (by omega) (by have := HZ4.out; omega))
      have c0 := (HA9.out.2 0 (.pointer (some ⟨bw, 0, none⟩)) rfl).1; have c1 := (HW9.out.2 2 (.slice tp tn tc) rfl).1
      have HQ9 := HQ; have HX9 := HX; have HN9 := HN
      go_wp2_with fail
      clear c0 c1 hlt HA9 HW9 HQ HX HN
      go_loopw [64] (fun i wr => ∃ k : Nat, k ≤ tn ∧ i = .int .i64 k ∧ BoxIs V4.heap.size (amoC (ph2 p.ts f n1 k).1) wr ∧ BoxIs (w.heap.size + 3) (resC (fun i => f i + (ph2 p.ts f n1 k).2 i) ke) wr ∧ Near (fun i => i = w.heap.size + 3 ∨ i = V4.heap.size) V5 wr) (fun i _ => tn - (intOf i).toNat)
      case atStart => exact ⟨0, by omega, rfl, HQ9.out, HX9.out, HN9.out⟩
      case round =>
        clear HQ9 HX9 HN9
        obtain ⟨k, hk, rfl, hq, hx, hn⟩ := hrel
        have HQ := hid hq; have HX := hid hx; have HN := hid hn
        clear hq hx hn
        by_cases hlt : k < tn
        · obtain ⟨t, ht, b1, o1, rfl, hb1, hd0, hd1, hd2, hd3, hd4, hd5, hd6⟩ := (HP.out.below (HBEL.out HN.out)).tre hlt
          have htv := HTS.out k t ht
          have HTV := hid htv.1
          have HT := hid ht
          have hpl := HPD.out.lo k; have hph := HPD.out.hi k
          have HSU := hid (ph2_succ (pd := f) (now := n1) ht)
          have HPH : Hid (Ph2 p.ts f a k n1 (ph2 p.ts f n1 k)) := hid (by have h := ph2_ok HTS.out th HPD.out ha.1 k (by have := HTN.out; omega); rw [HN1.out] at h; exact h)
          obtain ⟨rf, hrf⟩ : ∃ z, (ph2 p.ts f n1 k).1 = z := ⟨_, rfl⟩
          obtain ⟨nf, hnf⟩ : ∃ z, (ph2 p.ts f n1 k).2 = z := ⟨_, rfl⟩
          have HSP : Hid (ph2 p.ts f n1 k = (rf, nf)) := hid (by rw [← hrf, ← hnf])
          rw [hrf] at HQ
          rw [hnf] at HX
          have HTB0 := hid (takes_bd htv.1 (n := rf t.off.toNat) (bf := f k) (by rw [← hrf]; exact HPH.out.r0 _) (HPD.out.cap k t ht))
          have hr0 : 0 ≤ rf t.off.toNat := by rw [← hrf]; exact HPH.out.r0 _
          have hr1 : rf t.off.toNat ≤ a := by rw [← hrf]; exact Int.le_trans (HPH.out.r1 _) (HPH.out.hi _)
          have HNB : Hid (∀ i, 0 ≤ nf i ∧ nf i ≤ a) := hid (fun i => by rw [← hnf]; have h1 := HPH.out.r0 i; have h2 := HPH.out.r1 i; have h3 := HPH.out.hi i; omega)
          have HLT : Hid (0 ≤ t.off → nf k = 0) := hid (fun h => by rw [← hnf]; exact (HPH.out.late k t ht h (Nat.le_refl _)).1)
          have hoj := htv.2.2
          clear hrf hnf ht htv
          have HTB : Hid (0 ≤ takesT t (rf t.off.toNat) (f k) ∧ takesT t (rf t.off.toNat) (f k) ≤ rf t.off.toNat) := hid ⟨HTB0.out.1, HTB0.out.2.1⟩
          clear HTB0
          obtain ⟨W6, hW6⟩ : ∃ V, wr.alloc (.cells #[.int .i64 t.kind, .int .i64 t.part, .int .i64 t.above, .int .i64 t.most, .int .i64 t.times, .int .i64 t.price, .int .i64 t.off] 87) = V := ⟨_, rfl⟩
          have hb6 : Below wr.heap.size wr W6 := by rw [← hW6]; exact (Below.refl _ _).alloc (Nat.le_refl _) _
          have HT6 : Hid (BoxIs wr.heap.size #[.int .i64 t.kind, .int .i64 t.part, .int .i64 t.above, .int .i64 t.most, .int .i64 t.times, .int .i64 t.price, .int .i64 t.off] W6) := by show BoxIs _ _ _; rw [← hW6]; exact BoxIs.start _ _ _
          have HN6 : Hid (Near (fun i => i = w.heap.size + 3 ∨ i = V4.heap.size) V5 W6) := hid (HN.out.trans (near_below hb6))
          have HQ6 := hid (HQ.out.below hb6); have HX7 := hid (HX.out.below hb6)
          clear hb6
          have f6 := (HT6.out.2 6 (.int .i64 t.off) rfl).1
          have HA6 := hid (HFAR.out HN6.out HA5.out (by omega) (by have := HZ4.out; omega)); have HW6 := hid (HFAR.out HN6.out HW5.out (by omega) (by have := HZ4.out; omega)); have HS6 := hid (HFAR.out HN6.out HS5.out (by omega) (by have := HZ4.out; omega))
          by_cases hoff : 0 ≤ t.off
          · have hof5 : t.off < (5 : Int) := by have := HTN.out; omega
            have HOF := hid hoff
            go_wp2_with fail
            clear f6 hW6 hd0 hd1 hd2 hd3 hd4 hd5 hd6
            (with_reducible refine (take2_any p lp ln lc (some ⟨b1, o1, none⟩) tn tc rp rn rc th bm bw (w.heap.size) (w.heap.size + 1) (w.heap.size + 3) V4.heap.size k t.off.toNat t a ke f (fun i => f i + nf i) rf w _ (HBEL.out HN6.out) HP.out HWK.out HA6.out HS6.out HX7.out HQ6.out (by have := HZ4.out; omega) HT.out htn5 HTV.out (by omega) (by omega) (by have := HNB.out k; show 0 ≤ f k + nf k ∧ f k + nf k ≤ _; omega) (by have := HTB.out; omega) (by omega) (by omega)).mono ?_)
            rintro e w7 ⟨⟨v7, rfl⟩, hq7, hx7, hn7⟩
            have HQ7 := hid hq7
            have HX8 : Hid (BoxIs (w.heap.size + 3) (resC (fun i => f i + updI nf k (takesT t (rf t.off.toNat) (f k)) i) ke) w7) := hid (by have h := hx7; rw [add_upd (HLT.out HOF.out)] at h; exact h)
            have HN7 : Hid (Near (fun i => i = w.heap.size + 3 ∨ i = V4.heap.size) V5 w7) := hid (HN6.out.trans hn7)
            clear hq7 hx7 hn7
            have HF : Hid (ph2 p.ts f n1 (k + 1) = (updI (updI rf t.off.toNat (rf t.off.toNat - takesT t (rf t.off.toNat) (f k))) k (takesT t (rf t.off.toNat) (f k)), updI nf k (takesT t (rf t.off.toNat) (f k)))) := hid (by rw [HSU.out, HSP.out, tk2, if_pos HOF.out])
            go_wp2_with fail
            go_roundw
            case rel => exact ⟨k + 1, by omega, by go_num, by rw [HF.out]; exact HQ7.out, by rw [HF.out]; exact HX8.out, HN7.out⟩
            case measure => simp [intOf]; omega
          · have hoff2 : t.off < 0 := by omega
            have HF : Hid (ph2 p.ts f n1 (k + 1) = (rf, nf)) := hid (by rw [HSU.out, HSP.out, tk2, if_neg (by exact hoff)])
            go_wp2_with fail
            go_roundw
            case rel => exact ⟨k + 1, by omega, by go_num, by rw [HF.out]; exact HQ6.out, by rw [HF.out]; exact HX7.out, HN6.out⟩
            case measure => simp [intOf]; omega
        · obtain rfl : tn = k := by omega
          have HXE : Hid (BoxIs (w.heap.size + 3) (resC (oneP p.ts th a f) (keptO p.ts th f a)) wr) := hid (by have h := HX.out; rw [← HKE.out]; rwa [resC_ext (g := oneP p.ts th a f) (fun i _ => by unfold oneP nowO; rw [HN1.out, ← HTN.out])] at h)
          obtain ⟨F, hF⟩ : ∃ g, oneP p.ts th a f = g := ⟨_, rfl⟩
          obtain ⟨ko, hko⟩ : ∃ g, keptO p.ts th f a = g := ⟨_, rfl⟩
          have HFE := hid hF; have HKO := hid hko
          rw [hF, hko] at HXE
          clear hF hko hk hlt HQ HX
          have HA9 := hid (HFAR.out HN.out HA5.out (by omega) (by have := HZ4.out; omega)); have HW9 := hid (HFAR.out HN.out HW5.out (by omega) (by have := HZ4.out; omega)); have HS9 := hid (HFAR.out HN.out HS5.out (by omega) (by have := HZ4.out; omega)); have HR9 := hid (HFAR.out HN.out HR5.out (by omega) (by have := HZ4.out; omega))
          have HM9 := hid (HM5.out.kept (HN.out.block _ HM5.out.lt (by have := HZ4.out; omega)))
          have HBE := hid (HBEL.out HN.out)
          have hmd : MapV wr.drew 163 bm nn M := HM9.out.below (Below.refl _ _).drew
          obtain ⟨Wf, hrun, hmf9, hg9⟩ := hmd.put Try.key163 Try.underlying144 HNN.out HKEY.out (.agg (resC F ko))
          have HNf : Hid (Near (fun i => i = bm) wr Wf) := hid ((Near.refl _ wr).drew.grown hg9 (fun i e _ => by cases e; rfl))
          have HMf := hid hmf9
          unfold staV staC resC at hrun
          clear hmf9 hg9 hmd
          go_wp2_with fail
          refine wp_region_held_drew (S := fun V => BoxIs (w.heap.size) #[.pointer (some ⟨bw, 0, none⟩)] V ∧ BoxIs bw (workC p lp ln lc tp tn tc rp rn rc th bm) V ∧ BoxIs (w.heap.size + 1) (staC a f) V ∧ BoxIs (w.heap.size + 3) (resC F ko) V) (by kernel_rfl) (⟨HA9.out.below (Below.refl _ _).drew, HW9.out.below (Below.refl _ _).drew, HS9.out.below (Below.refl _ _).drew, HXE.out.below (Below.refl _ _).drew⟩) (fun hS => ?_)
          simp only [List.size_toArray, List.length_cons, List.length_nil, Nat.reduceAdd, Array.replicate_succ, Array.replicate_zero, List.push_toArray, List.nil_append, List.cons_append]
          refine tkH (i := 0) (v := ?_) (fun V hV => ?_) ?_
          rotate_left
          · have c0 := (hV.1.2 0 (.pointer (some ⟨bw, 0, none⟩)) rfl).1; go_simp
            try with_reducible rfl
          try simp only [Act.put, List.getElem_toArray, List.getElem_cons_zero, List.setIfInBounds_toArray, List.set_cons_zero, List.set_cons_succ]
          refine tkH (i := 1) (v := ?_) (fun V hV => ?_) ?_
          rotate_left
          · go_simp
            try with_reducible rfl
          try simp only [Act.put, List.getElem_toArray, List.getElem_cons_zero, List.getElem_cons_succ, List.setIfInBounds_toArray, List.set_cons_zero, List.set_cons_succ]
          refine tkH (i := 2) (v := ?_) (fun V hV => ?_) ?_
          rotate_left
          · go_simp
            try with_reducible rfl
          try simp only [Act.put, List.getElem_toArray, List.getElem_cons_zero, List.getElem_cons_succ, List.setIfInBounds_toArray, List.set_cons_zero, List.set_cons_succ]
          refine tkH (i := 3) (v := ?_) (fun V hV => ?_) ?_
          rotate_left
          · have c0 := (hV.2.1.2 9 (.map (some bm)) rfl).1; go_simp
            try with_reducible rfl
          try simp only [Act.put, List.getElem_toArray, List.getElem_cons_zero, List.getElem_cons_succ, List.setIfInBounds_toArray, List.set_cons_zero, List.set_cons_succ]
          refine tkH (i := 4) (v := ?_) (fun V hV => ?_) ?_
          rotate_left
          · have c0 := (hV.2.2.1.2 0 (.int .i64 a) rfl).1; have c1 := (hV.2.2.1.2 1 (.int .i64 (f 0)) rfl).1; have c2 := (hV.2.2.1.2 2 (.int .i64 (f 1)) rfl).1; have c3 := (hV.2.2.1.2 3 (.int .i64 (f 2)) rfl).1; have c4 := (hV.2.2.1.2 4 (.int .i64 (f 3)) rfl).1; have c5 := (hV.2.2.1.2 5 (.int .i64 (f 4)) rfl).1; go_simp
            try with_reducible rfl
          try simp only [Act.put, List.getElem_toArray, List.getElem_cons_zero, List.getElem_cons_succ, List.setIfInBounds_toArray, List.set_cons_zero, List.set_cons_succ]
          refine tkH (i := 5) (v := ?_) (fun V hV => ?_) ?_
          rotate_left
          · have c0 := (hV.2.2.2.2 0 (.int .i64 (F 0)) rfl).1; have c1 := (hV.2.2.2.2 1 (.int .i64 (F 1)) rfl).1; have c2 := (hV.2.2.2.2 2 (.int .i64 (F 2)) rfl).1; have c3 := (hV.2.2.2.2 3 (.int .i64 (F 3)) rfl).1; have c4 := (hV.2.2.2.2 4 (.int .i64 (F 4)) rfl).1; have c5 := (hV.2.2.2.2 5 (.int .i64 ko) rfl).1; go_simp
            try with_reducible rfl
          try simp only [Act.put, List.getElem_toArray, List.getElem_cons_zero, List.getElem_cons_succ, List.setIfInBounds_toArray, List.set_cons_zero, List.set_cons_succ]
          refine wpAnyH_ready (rs := [6]) (by kernel_rfl) (by simp) ?_
          refine AllReadyH.cons (o := _) rfl (fun K hK => ?_) AllReadyH.nil
          go_simp
          refine hK.out _ _ (⟨HA9.out.far HNf.out (by omega), HW9.out.far HNf.out HBM.out, HS9.out.far HNf.out (by omega), HXE.out.far HNf.out (by omega)⟩) (fun hS => ?_)
          clear hK K
          try simp only [List.setIfInBounds_toArray, List.set_cons_zero, List.set_cons_succ]
          refine wpAnyH_done (by kernel_rfl) ?_ _
          clear hS hrun
          have HXf := hid (HXE.out.far HNf.out (by omega)); have HRf := hid (HR9.out.far HNf.out (by omega))
          have k0 := (HXf.out.2 0 (.int .i64 (F 0)) rfl).1; have k1 := (HXf.out.2 1 (.int .i64 (F 1)) rfl).1; have k2 := (HXf.out.2 2 (.int .i64 (F 2)) rfl).1; have k3 := (HXf.out.2 3 (.int .i64 (F 3)) rfl).1; have k4 := (HXf.out.2 4 (.int .i64 (F 4)) rfl).1; have k5 := (HXf.out.2 5 (.int .i64 ko) rfl).1
          have z0 := (HRf.out.2 0 (.int .i64 0) rfl).1; have y0 := (HRf.out.2 0 (.int .i64 0) rfl).2; have z1 := (HRf.out.2 1 (.int .i64 0) rfl).1; have y1 := (HRf.out.2 1 (.int .i64 0) rfl).2; have z2 := (HRf.out.2 2 (.int .i64 0) rfl).1; have y2 := (HRf.out.2 2 (.int .i64 0) rfl).2; have z3 := (HRf.out.2 3 (.int .i64 0) rfl).1; have y3 := (HRf.out.2 3 (.int .i64 0) rfl).2; have z4 := (HRf.out.2 4 (.int .i64 0) rfl).1; have y4 := (HRf.out.2 4 (.int .i64 0) rfl).2; have z5 := (HRf.out.2 5 (.int .i64 0) rfl).1; have y5 := (HRf.out.2 5 (.int .i64 0) rfl).2
          have HY := hid (((((((HRf.out.put (j := 0) (.int .i64 (F 0))).put (j := 1) (.int .i64 (F 1))).put (j := 2) (.int .i64 (F 2))).put (j := 3) (.int .i64 (F 3))).put (j := 4) (.int .i64 (F 4))).put (j := 5) (.int .i64 ko)))
          have HNY : Hid (Near (fun i => i = w.heap.size + 2) Wf ((((((Wf.setCell ⟨w.heap.size + 2, 0, none⟩ (.int .i64 (F 0))).setCell ⟨w.heap.size + 2, 1, none⟩ (.int .i64 (F 1))).setCell ⟨w.heap.size + 2, 2, none⟩ (.int .i64 (F 2))).setCell ⟨w.heap.size + 2, 3, none⟩ (.int .i64 (F 3))).setCell ⟨w.heap.size + 2, 4, none⟩ (.int .i64 (F 4))).setCell ⟨w.heap.size + 2, 5, none⟩ (.int .i64 ko))) := hid ((((((near_one (W := Wf) (b := w.heap.size + 2) (o := 0) (S := fun i => i = w.heap.size + 2) rfl (.int .i64 (F 0))).setCell (p := ⟨w.heap.size + 2, 1, none⟩) (fun _ => rfl) (.int .i64 (F 1))).setCell (p := ⟨w.heap.size + 2, 2, none⟩) (fun _ => rfl) (.int .i64 (F 2))).setCell (p := ⟨w.heap.size + 2, 3, none⟩) (fun _ => rfl) (.int .i64 (F 3))).setCell (p := ⟨w.heap.size + 2, 4, none⟩) (fun _ => rfl) (.int .i64 (F 4))).setCell (p := ⟨w.heap.size + 2, 5, none⟩) (fun _ => rfl) (.int .i64 ko))
          go_wp2_with fail
          generalize ((((((Wf.setCell ⟨w.heap.size + 2, 0, none⟩ (.int .i64 (F 0))).setCell ⟨w.heap.size + 2, 1, none⟩ (.int .i64 (F 1))).setCell ⟨w.heap.size + 2, 2, none⟩ (.int .i64 (F 2))).setCell ⟨w.heap.size + 2, 3, none⟩ (.int .i64 (F 3))).setCell ⟨w.heap.size + 2, 4, none⟩ (.int .i64 (F 4))).setCell ⟨w.heap.size + 2, 5, none⟩ (.int .i64 ko)) = W9 at HY HNY ⊢
          clear k0 z0 y0 k1 z1 y1 k2 z2 y2 k3 z3 y3 k4 z4 y4 k5 z5 y5
          have x0 := (HY.out.2 0 (.int .i64 (F 0)) rfl).1; have x1 := (HY.out.2 1 (.int .i64 (F 1)) rfl).1; have x2 := (HY.out.2 2 (.int .i64 (F 2)) rfl).1; have x3 := (HY.out.2 3 (.int .i64 (F 3)) rfl).1; have x4 := (HY.out.2 4 (.int .i64 (F 4)) rfl).1; have x5 := (HY.out.2 5 (.int .i64 ko) rfl).1
          refine bodyPost_ret (v := .agg (resC F ko)) (by simp [resC, results, Try.f107, go_sem, x0, x1, x2, x3, x4, x5]) rfl ?_
          refine ⟨by rw [HFE.out, HKO.out], _, HMf.out.kept (HNY.out.block bm HMf.out.lt (by omega)), ?_, ?_⟩
          · rw [← HFE.out, ← HKO.out]; exact HKN.out.upd HLEN.out a f
          · exact ((Near.of_below (S := fun i => i = bm) HBE.out (fun i h1 h2 => by omega)).trans HNf.out).trans' HNY.out (fun i h1 h2 => by omega)
end Go.Proofs.Ytaioobhblfnlaaa
