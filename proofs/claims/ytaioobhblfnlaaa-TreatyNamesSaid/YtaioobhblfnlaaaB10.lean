/- The reference: what all treaties pay for losses, and what the society keeps. No condition but a valid programme and losses in its bounds. -/
import Derived.Test.YtaioobhblfnlaaaB9
import Derived.Deep.OwnRows
namespace Go.Proofs.Ytaioobhblfnlaaa
open Go.RowKit

theorem OwnInts.box {w : World} {base : Nat} {v : Value} {l : List Int} (h : OwnInts w base v l) : ∃ q c, v = .slice q l.length c ∧ (0 < l.length → ∃ g, q = some ⟨g, 0, none⟩ ∧ base ≤ g ∧ BoxIs g (intsV l) w) := by
  have h0 := h
  rcases h.2 with ⟨rfl, hn⟩ | ⟨g, cap, cur, rfl, hg, hh, hn, hm, hs, ht⟩
  · exact ⟨none, 0, by rw [hn], fun hp => by omega⟩
  · refine ⟨_, cap, rfl, fun _ => ⟨g, rfl, hg, (Array.getElem?_eq_some_iff.1 hh).1, fun k v hk => ?_⟩⟩
    have e : ∀ y : Nat, (⟨g, 0, none⟩ : Addr).add y = ⟨g, 0 + y, none⟩ := fun y => by unfold Addr.add; split <;> simp_all
    have hk' : (l.map (Value.int .i64))[k]? = some v := by simpa [intsV] using hk
    have hc := World.ownsRow.cells h0 (g := g) rfl k v hk'
    rw [e, Nat.zero_add] at hc
    exact ⟨hc, by simp only [World.frozen?]; rw [hh]; rfl⟩
theorem updI_comm {a b : Nat} (h : a ≠ b) (f : Nat → Int) (x y : Int) : updI (updI f a x) b y = updI (updI f b y) a x := by
  funext i
  unfold updI
  by_cases e : i = b
  · subst e; rw [if_pos rfl, if_neg (fun e => h e.symm), if_pos rfl]
  · rw [if_neg e]
    by_cases e2 : i = a
    · rw [if_pos e2, if_pos e2]
    · rw [if_neg e2, if_neg e2, if_neg e]
def mixF (pd now : Nat → Int) (k : Nat) : Nat → Int := fun i => if i < k then pd i + now i else pd i
theorem mix_zero (pd now : Nat → Int) : mixF pd now 0 = pd := by funext i; simp [mixF]
theorem mix_succ (pd now : Nat → Int) (k : Nat) : updI (mixF pd now k) k (pd k + now k) = mixF pd now (k + 1) := by
  funext i
  unfold updI mixF
  by_cases e : i = k
  · subst e; simp
  · rw [if_neg e]
    by_cases h : i < k
    · rw [if_pos h, if_pos (by omega)]
    · rw [if_neg h, if_neg (by omega)]
theorem mix_at (pd now : Nat → Int) (k : Nat) : mixF pd now k k = pd k := by simp [mixF]
theorem mix_end (pd now : Nat → Int) (n : Nat) : ofF (mixF pd now n) n = ofF (fun i => pd i + now i) n := ofF_ext fun i hi => by simp [mixF, hi]
theorem BoxIs.at {g n : Nat} {f : Nat → Int} {W : World} (h : BoxIs g (intsV (ofF f n)) W) {k : Nat} (hk : k < n) : W.cell? ⟨g, k, none⟩ = some (.int .i64 (f k)) ∧ W.frozen? ⟨g, k, none⟩ = false :=
  h.2 k _ (by simp [intsV, ofF_get f hk])
theorem BoxIs.upd {g n k : Nat} {f : Nat → Int} {W : World} (h : BoxIs g (intsV (ofF f n)) W) (hk : k < n) (z : Int) : BoxIs g (intsV (ofF (updI f k z) n)) (W.setCell ⟨g, k, none⟩ (.int .i64 z)) := by
  have h1 := h.setInt (j := k) z
  rwa [ofF_set f hk] at h1
/-- What comes back: what all treaties pay, and what the society keeps. -/
def PaysAt (r : (Nat → Int) × Int) (n : Nat) (w : World) : Ending → World → Prop := fun e w' => e = .returned (.tuple #[.slice (some ⟨w.heap.size + 1, 0, none⟩) n n, .int .i64 r.2]) ∧ IntsAt w' (some ⟨w.heap.size + 1, 0, none⟩) n (ofF r.1 n) ∧ Below w.heap.size w w'
/-- .. somewhere. -/
def PaysPost (r : (Nat → Int) × Int) (n : Nat) (w : World) : Ending → World → Prop := fun e w' => ∃ q c, e = .returned (.tuple #[.slice q n c, .int .i64 r.2]) ∧ IntsAt w' q n (ofF r.1 n) ∧ Below w.heap.size w w'
def OkTs (ts : List Tre) : Prop := ∀ (i : Nat) t, ts[i]? = some t → treV t = true ∧ -1 ≤ t.off ∧ t.off < i
theorem pd_zero {ts : List Tre} (h : OkTs ts) : PdOk ts zeroF 0 := ⟨fun _ => Int.le_refl _, fun _ => Int.le_refl _, fun i t ht _ => (cap_bd (h i t ht).1).1⟩
theorem near_below {S : Nat → Prop} {W W1 : World} (hb : Below W.heap.size W W1) : Near S W W1 := Near.of_below hb fun k h1 h2 => by omega

set_option maxRecDepth 100000 in
set_option maxHeartbeats 16000000 in
theorem pays_at (p : Prg) (lp : Option Addr) (ln lc : Nat) (tp : Option Addr) (tn tc : Nat) (rp : Option Addr) (rn rc : Nat) (q : Option Addr) (m c : Nat) (l : List Int) (bits : Int) (w : World) (hp : PrgAt w p lp ln tp tn rp rn) (hl : IntsAt w q m l) (htn : tn ≤ 5) (hm : m ≤ 100) (hts : OkTs p.ts) (hlb : ∀ x ∈ l, 0 ≤ x ∧ x ≤ 1000) (h0 : 0 ≤ bits) (h1 : bits < 4096) :
    Calls Try.prog 26 #[.agg #[.slice lp ln lc, .int .i64 p.reserve, .slice tp tn tc, .slice rp rn rc], .slice q m c, .int .i64 bits] w (PaysAt (paysS p.ts (bitB bits) l) tn w) := by
  have HP := hid hp.t
  have HTN := hid hp.t.1
  have HL := hid hl
  have HMN := hid hl.1
  have HTS := hid hts; have HLB := hid hlb
  clear hp hl hts hlb
  obtain ⟨th, hth⟩ : ∃ f, bitB bits = f := ⟨_, rfl⟩
  have HTH := hid hth
  rw [hth]
  clear hth
  have hmk := fun W => run_make_row' (P := Try.prog) 27 3 (.int .i64 0) 8 Try.underlying27 Try.info3 rfl .i64 .i64 tn (by omega) (by omega) W
  obtain ⟨W1, hW1⟩ : ∃ V, (w.alloc (.cells #[.slice lp ln lc, .int .i64 p.reserve, .slice tp tn tc, .slice rp rn rc] 26)).alloc (.cells (madeCells #[.int .i64 0] tn) 3) = V := ⟨_, rfl⟩
  have H1 : Hid (Boxed1 w #[.slice lp ln lc, .int .i64 p.reserve, .slice tp tn tc, .slice rp rn rc] 26 W1) := by show Boxed1 _ _ _ _; rw [← hW1]; exact (Boxed1.start _ _ _).alloc _
  have HP1 : Hid (BoxIs (w.heap.size + 1) (intsV (ofF zeroF tn)) W1) := by
    show BoxIs _ _ _
    have h := boxIs_made (w.alloc (.cells #[.slice lp ln lc, .int .i64 p.reserve, .slice tp tn tc, .slice rp rn rc] 26)) tn
    rw [hW1, World.size_alloc, ofF_zero] at h; exact h
  have HPZ := hid (pd_zero HTS.out)
  go_enter Try.func26, Try.ntmps26
  go_wp2_with fail
  go_loopw [9, 10] (fun s i wr => ∃ (k : Nat) (pd : Nat → Int) (net : Int), k ≤ m ∧ s = .int .i64 net ∧ i = .int .i64 k ∧ totS p.ts th (l.drop k) (pd, net) = totS p.ts th l (zeroF, 0) ∧ PdOk p.ts pd (1000 * k) ∧ (0 ≤ net ∧ net ≤ 1000 * k) ∧ BoxIs (w.heap.size + 1) (intsV (ofF pd tn)) wr ∧ Boxed1 w #[.slice lp ln lc, .int .i64 p.reserve, .slice tp tn tc, .slice rp rn rc] 26 wr) (fun _ i _ => m - (intOf i).toNat)
  case atStart => exact ⟨0, zeroF, 0, by omega, rfl, rfl, rfl, by simpa using HPZ.out, by omega, HP1.out, H1.out⟩
  case round =>
    clear H1 HP1 HPZ hW1
    obtain ⟨k, pd, net, hk, rfl, rfl, hr, hpd, hnet, hx, hb⟩ := hrel
    have HR := hid hr; have HPD := hid hpd; have HX := hid hx; have HB := hid hb
    clear hr hpd hx
    by_cases hlt : k < m
    · obtain ⟨b1, o1, rfl, hb1, hc⟩ := (HL.out.below hb.below).at hlt
      have HD := hid (drop_at l k (by have := HMN.out; omega))
      have hLb := HLB.out _ (getD_mem (show k < l.length by have := HMN.out; omega))
      obtain ⟨L, hL⟩ : ∃ z, l[k]?.getD 0 = z := ⟨_, rfl⟩
      rw [hL] at hc HD hLb
      clear hL
      have HGO : Hid (totS p.ts th (l.drop (k + 1)) (fun i => pd i + nowO p.ts th pd L i, net + keptO p.ts th pd L) = totS p.ts th l (zeroF, 0)) := by show _ = _; rw [← HR.out, HD.out]; rfl
      have HNO := hid (now_ok HTS.out th HPD.out hLb.1 hLb.2)
      have e2 := hb.cell 2 (v := .slice tp tn tc) rfl
      clear hb
      obtain ⟨wo, rfl⟩ : ∃ wo : World, wo = wr := ⟨_, rfl⟩
      obtain ⟨W2, hW2⟩ : ∃ V, wo.alloc (.cells (madeCells #[.int .i64 0] tn) 3) = V := ⟨_, rfl⟩
      have hb2 : Below wo.heap.size wo W2 := by rw [← hW2]; exact (Below.refl _ _).alloc (Nat.le_refl _) _
      have HN2 : Hid (BoxIs wo.heap.size (intsV (ofF (ph1 p.ts th pd L 0).2 tn)) W2) := by show BoxIs _ _ _; rw [← hW2]; have h := boxIs_made wo tn; rw [ofF_zero] at h; exact h
      have HX2 := hid (HX.out.below hb2); have HB2 := hid (HB.out.step hb2)
      have HSZ : Hid (w.heap.size + 2 ≤ wo.heap.size) := hid (by have := HX.out.1; omega)
      clear hb2
      go_wp2_with fail
      clear e2 hc
      go_loopw [11, 13] (fun lf i wr => ∃ j : Nat, j ≤ tn ∧ lf = .int .i64 (ph1 p.ts th pd L j).1 ∧ i = .int .i64 j ∧ BoxIs wo.heap.size (intsV (ofF (ph1 p.ts th pd L j).2 tn)) wr ∧ BoxIs (w.heap.size + 1) (intsV (ofF pd tn)) wr ∧ Boxed1 w #[.slice lp ln lc, .int .i64 p.reserve, .slice tp tn tc, .slice rp rn rc] 26 wr) (fun _ i _ => tn - (intOf i).toNat)
      case atStart => exact ⟨0, by omega, rfl, rfl, HN2.out, HX2.out, HB2.out⟩
      case round =>
        clear HN2 HX2 HB2 hW2
        obtain ⟨j, hj, rfl, rfl, hn, hx, hb⟩ := hrel
        have HN := hid hn; have HXP := hid hx; have HBB := hid hb
        clear hn hx
        by_cases hjt : j < tn
        · obtain ⟨t, ht, b2, o2, rfl, hb2, hd0, hd1, hd2, hd3, hd4, hd5, hd6⟩ := (HP.out.below hb.below).tre hjt
          have HSU := hid (ph1_succ (th := th) (pd := pd) (loss := L) ht)
          have HPH := hid (ph1_ok HTS.out th HPD.out hLb.1 j (by have := HTN.out; omega))
          have htv := HTS.out j t ht
          have HTV := hid htv.1
          have hk0 := HPH.out.k0; have hk1 := HPH.out.k1
          have hpl := HPD.out.lo j; have hph := HPD.out.hi j
          have HTB0 := hid (takes_bd htv.1 (n := (ph1 p.ts th pd L j).1) (bf := pd j) HPH.out.k0 (HPD.out.cap j t ht))
          clear ht htv
          obtain ⟨lf, hlf⟩ : ∃ z, (ph1 p.ts th pd L j).1 = z := ⟨_, rfl⟩
          obtain ⟨nf, hnf⟩ : ∃ z, (ph1 p.ts th pd L j).2 = z := ⟨_, rfl⟩
          rw [hlf] at hk0 hk1 ⊢
          rw [hnf] at HN
          have HTB : Hid (0 ≤ takesT t lf (pd j) ∧ takesT t lf (pd j) ≤ lf) := hid (by have h := HTB0.out; rw [hlf] at h; exact ⟨h.1, h.2.1⟩)
          clear HTB0
          have HSP : Hid (ph1 p.ts th pd L j = (lf, nf)) := hid (by rw [← hlf, ← hnf])
          clear hlf hnf
          have e2 := hb.cell 2 (v := .slice (some ⟨b2, o2, none⟩) tn tc) rfl
          clear hb
          have hbt := (show bitB bits j = (bits / 2 ^ j % 2 == 1) from rfl)
          rw [HTH.out] at hbt
          have hcv : IntKind.u64.wrap (j : Int) = (j : Int) := by rw [IntKind.wrap_u64]; omega
          have hdz : 0 ≤ bits / 2 ^ j := Int.ediv_nonneg h0 (by exact_mod_cast Nat.zero_le _)
          have hdl : bits / 2 ^ j < 4096 := by
            have : bits / 2 ^ j ≤ bits := Int.ediv_le_self _ h0
            omega
          have hmd : (bits / 2 ^ j).tmod 2 = bits / 2 ^ j % 2 := Int.tmod_eq_emod_of_nonneg hdz
          obtain ⟨W3, hW3⟩ : ∃ V, wr.alloc (.cells #[.int .i64 t.kind, .int .i64 t.part, .int .i64 t.above, .int .i64 t.most, .int .i64 t.times, .int .i64 t.price, .int .i64 t.off] 94) = V := ⟨_, rfl⟩
          have hb3 : Below wr.heap.size wr W3 := by rw [← hW3]; exact (Below.refl _ _).alloc (Nat.le_refl _) _
          have HT3 : Hid (BoxIs wr.heap.size #[.int .i64 t.kind, .int .i64 t.part, .int .i64 t.above, .int .i64 t.most, .int .i64 t.times, .int .i64 t.price, .int .i64 t.off] W3) := by show BoxIs _ _ _; rw [← hW3]; exact BoxIs.start _ _ _
          have HN3 := hid (HN.out.below hb3); have HX3 := hid (HXP.out.below hb3); have HB3 := hid (HBB.out.step hb3)
          have HWL := hid HN.out.1
          clear hb3
          have f6 := (HT3.out.2 6 (.int .i64 t.off) rfl).1
          by_cases hoff : t.off < 0
          · cases hbk : th j
            · have hbe : (bits / 2 ^ j % 2 == 1) = false := by rw [← hbt, hbk]
              have HBK := hid hbk
              clear hbt hbk
              have HF : Hid (ph1 p.ts th pd L (j + 1) = (lf, nf)) := hid (by rw [HSU.out, HSP.out, tk1, if_neg (by rintro ⟨_, h⟩; rw [HBK.out] at h; cases h)])
              go_wp2_with fail
              go_roundw
              case rel => exact ⟨j + 1, by omega, by rw [HF.out], by go_num, by rw [HF.out]; exact HN3.out, HX3.out, HB3.out⟩
              case measure => simp [intOf]; omega
            · have hbe : (bits / 2 ^ j % 2 == 1) = true := by rw [← hbt, hbk]
              have HOB := hid (show t.off < 0 ∧ th j = true from ⟨hoff, hbk⟩)
              clear hbt hbk
              go_upto_region 13 with fail
              clear hW3 f6 e2 hbe hdz hdl hmd hcv
              refine wp_region_held_drew (S := fun V => Near (fun i => i = wo.heap.size) W3 V) (by kernel_rfl) ((Near.refl _ _).drew) (fun hS => ?_)
              simp only [List.size_toArray, List.length_cons, List.length_nil, Nat.reduceAdd, Array.replicate_succ, Array.replicate_zero, List.push_toArray, List.nil_append, List.cons_append]
              refine tkH (i := 0) (v := ?_) (fun V hV => ?_) ?_
              rotate_left
              · go_simp
                try with_reducible rfl
              try simp only [Act.put, List.getElem_toArray, List.getElem_cons_zero, List.setIfInBounds_toArray, List.set_cons_zero, List.set_cons_succ]
              refine tkH (i := 1) (v := ?_) (fun V hV => ?_) ?_
              rotate_left
              · go_simp
                try with_reducible rfl
              try simp only [Act.put, List.getElem_toArray, List.getElem_cons_zero, List.getElem_cons_succ, List.setIfInBounds_toArray, List.set_cons_zero, List.set_cons_succ]
              refine tkH (i := 2) (v := ?_) (fun V hV => ?_) ?_
              rotate_left
              · have f0 := ((HT3.out.far hV (by have := HWL.out; omega)).2 0 (.int .i64 t.kind) rfl).1; have f1 := ((HT3.out.far hV (by have := HWL.out; omega)).2 1 (.int .i64 t.part) rfl).1; have f2 := ((HT3.out.far hV (by have := HWL.out; omega)).2 2 (.int .i64 t.above) rfl).1; have f3 := ((HT3.out.far hV (by have := HWL.out; omega)).2 3 (.int .i64 t.most) rfl).1; have f4 := ((HT3.out.far hV (by have := HWL.out; omega)).2 4 (.int .i64 t.times) rfl).1; have f5 := ((HT3.out.far hV (by have := HWL.out; omega)).2 5 (.int .i64 t.price) rfl).1; have f6 := ((HT3.out.far hV (by have := HWL.out; omega)).2 6 (.int .i64 t.off) rfl).1; go_simp
                try with_reducible rfl
              try simp only [Act.put, List.getElem_toArray, List.getElem_cons_zero, List.getElem_cons_succ, List.setIfInBounds_toArray, List.set_cons_zero, List.set_cons_succ]
              refine tkH (i := 3) (v := ?_) (fun V hV => ?_) ?_
              rotate_left
              · go_simp
                try with_reducible rfl
              try simp only [Act.put, List.getElem_toArray, List.getElem_cons_zero, List.getElem_cons_succ, List.setIfInBounds_toArray, List.set_cons_zero, List.set_cons_succ]
              refine tkH (i := 4) (v := ?_) (fun V hV => ?_) ?_
              rotate_left
              · go_simp
                try with_reducible rfl
              try simp only [Act.put, List.getElem_toArray, List.getElem_cons_zero, List.getElem_cons_succ, List.setIfInBounds_toArray, List.set_cons_zero, List.set_cons_succ]
              refine tkH (i := 5) (v := ?_) (fun V hV => ?_) ?_
              rotate_left
              · go_simp
                try with_reducible rfl
              try simp only [Act.put, List.getElem_toArray, List.getElem_cons_zero, List.getElem_cons_succ, List.setIfInBounds_toArray, List.set_cons_zero, List.set_cons_succ]
              refine tkH (i := 6) (v := ?_) (fun V hV => ?_) ?_
              rotate_left
              · go_simp
                try with_reducible rfl
              try simp only [Act.put, List.getElem_toArray, List.getElem_cons_zero, List.getElem_cons_succ, List.setIfInBounds_toArray, List.set_cons_zero, List.set_cons_succ]
              refine tkH (i := 7) (v := ?_) (fun V hV => ?_) ?_
              rotate_left
              · have c0 := ((HX3.out.far hV (by have := HSZ.out; omega)).at hjt).1; go_simp
                try with_reducible rfl
              try simp only [Act.put, List.getElem_toArray, List.getElem_cons_zero, List.getElem_cons_succ, List.setIfInBounds_toArray, List.set_cons_zero, List.set_cons_succ]
              refine wpAnyH_ready (rs := [8]) (by kernel_rfl) (by simp) ?_
              refine AllReadyH.cons (o := _) rfl (fun K hK => ?_) AllReadyH.nil
              go_simp
              (with_reducible refine (takesR_any t lf (pd j) _ HTV.out (by omega) (by omega) (by omega) (by omega)).mono ?_)
              rintro e V8 ⟨rfl, hb8⟩
              have hbb := (show Below W3.heap.size W3 W3.drew from (Below.refl _ _).drew).trans hb8
              have HN8 := hid (HN3.out.below hbb); have HX8 := hid (HX3.out.below hbb); have HB8 := hid (HB3.out.step hbb); have HT8 := hid (HT3.out.below hbb)
              have hNE := hS.trans (near_below (S := fun i => i = wo.heap.size) hb8)
              clear hb8 hbb hS
              refine hK.out _ _ (hNE) (fun hS => ?_)
              clear hK K
              try simp only [List.setIfInBounds_toArray, List.set_cons_zero, List.set_cons_succ]
              refine tkH (i := 9) (v := ?_) (fun V hV => ?_) ?_
              rotate_left
              · go_simp
                try with_reducible rfl
              try simp only [Act.put, List.getElem_toArray, List.getElem_cons_zero, List.getElem_cons_succ, List.setIfInBounds_toArray, List.set_cons_zero, List.set_cons_succ]
              refine wpAnyH_ready (rs := [10]) (by kernel_rfl) (by simp) ?_
              refine AllReadyH.cons (o := _) rfl (fun K hK => ?_) AllReadyH.nil
              obtain ⟨z, hz⟩ : ∃ z, takesT t lf (pd j) = z := ⟨_, rfl⟩
              have HZ := hid hz
              rw [hz]
              clear hz
              have ⟨c1, f1⟩ := HN8.out.at hjt
              obtain ⟨V10, hV10⟩ : ∃ V, V8.setCell ⟨wo.heap.size, j, none⟩ (.int .i64 z) = V := ⟨_, rfl⟩
              have HN10 : Hid (BoxIs wo.heap.size (intsV (ofF (updI nf j z) tn)) V10) := by show BoxIs _ _ _; rw [← hV10]; exact HN8.out.upd hjt z
              have hn10 : Near (fun i => i = wo.heap.size) V8 V10 := by rw [← hV10]; exact (Near.refl (fun i => i = wo.heap.size) _).setCell (p := ⟨wo.heap.size, j, none⟩) (fun _ => rfl) _
              have HX10 := hid (HX8.out.far hn10 (by have := HSZ.out; omega)); have HB10 : Hid (Boxed1 w #[.slice lp ln lc, .int .i64 p.reserve, .slice (some ⟨b2, o2, none⟩) tn tc, .slice rp rn rc] 26 V10) := hid (HB8.out.step' (hn10.below (by have := HN8.out.1; have := HSZ.out; omega) (fun i hi e => by have := HSZ.out; omega)))
              have hNE := hS.trans hn10
              clear hn10 hS
              go_simp
              clear c1 f1
              refine hK.out _ _ (hNE) (fun hS => ?_)
              clear hK K
              try simp only [List.setIfInBounds_toArray, List.set_cons_zero, List.set_cons_succ]
              refine wpAnyH_done (by kernel_rfl) ?_ _
              clear hS
              have c1 := (HN10.out.at hjt).1
              rw [updI_same] at c1
              have hzb := HTB.out
              rw [HZ.out] at hzb
              have HF : Hid (ph1 p.ts th pd L (j + 1) = (lf - z, updI nf j z)) := hid (by rw [HSU.out, HSP.out, tk1, if_pos HOB.out]; show (lf - takesT t lf (pd j), updI nf j (takesT t lf (pd j))) = _; rw [HZ.out])
              go_wp2_with fail
              go_roundw
              case rel => exact ⟨j + 1, by omega, by rw [HF.out], by go_num, by rw [HF.out]; exact HN10.out, HX10.out, HB10.out⟩
              case measure => simp [intOf]; omega
          · have hoff2 : ¬ t.off < 0 := hoff
            have HOF := hid hoff2
            clear hbt
            have HF : Hid (ph1 p.ts th pd L (j + 1) = (lf, nf)) := hid (by rw [HSU.out, HSP.out, tk1, if_neg (by rintro ⟨h, _⟩; exact HOF.out h)])
            go_wp2_with fail
            go_roundw
            case rel => exact ⟨j + 1, by omega, by rw [HF.out], by go_num, by rw [HF.out]; exact HN3.out, HX3.out, HB3.out⟩
            case measure => simp [intOf]; omega
        · obtain rfl : tn = j := by omega
          obtain ⟨kp, hkp⟩ : ∃ z, (ph1 p.ts th pd L tn).1 = z := ⟨_, rfl⟩
          obtain ⟨n1, hn1⟩ : ∃ z, (ph1 p.ts th pd L tn).2 = z := ⟨_, rfl⟩
          have HKP : Hid (keptO p.ts th pd L = kp) := hid (by rw [keptO, ← HTN.out, hkp])
          have HN1 : Hid ((ph1 p.ts th pd L p.ts.length).2 = n1) := hid (by rw [← HTN.out, hn1])
          have hkb : 0 ≤ kp ∧ kp ≤ L := by have h := HNO.out.2; rw [HKP.out] at h; exact h
          rw [hn1] at HN
          rw [hkp]
          clear hkp hn1 hj
          obtain ⟨wi, rfl⟩ : ∃ wi : World, wi = wr := ⟨_, rfl⟩
          have HOWN : Hid (OwnInts (wi.alloc (.cells #[] 3)) wi.heap.size (.slice (some ⟨wi.heap.size, 0, none⟩) 0 0) []) := World.ownsRow_lit wi #[] 0 (Nat.le_refl _) (by decide) rfl
          have HLA : Hid (IntsAt (wi.alloc (.cells #[] 3)) (some ⟨wo.heap.size, 0, none⟩) tn (ofF n1 tn)) := hid (by have h := HN.out.ints; rw [ofF_len] at h; exact h.alloc _)
          have e2 := hb.cell 2 (v := .slice tp tn tc) rfl
          have HWI := hid HN.out.1
          clear hb
          go_wp2_with (at_builtin; refine append_ints (by rfl) (.tmp 79) (.tmp 80) (by rfl) wi.heap.size _ [] ⟨wo.heap.size, 0, none⟩ tn tn (ofF n1 tn) HOWN.out (by rfl) (by rfl) HLA.out (by simp) (by omega) (by simp) ?_; intro v5 W5 ho5 hb5)
          clear e2 hjt
          rw [List.nil_append] at ho5
          obtain ⟨q5, c5, e5, hq5⟩ := ho5.box
          rw [ofF_len] at e5 hq5
          subst e5
          obtain ⟨g, hg⟩ : ∃ g, 0 < tn → q5 = some ⟨g, 0, none⟩ ∧ wi.heap.size ≤ g ∧ BoxIs g (intsV (ofF n1 tn)) W5 := by
            by_cases h : 0 < tn
            · obtain ⟨g, hg⟩ := hq5 h; exact ⟨g, fun _ => hg⟩
            · exact ⟨0, fun h2 => absurd h2 h⟩
          have HG := hid hg
          have hbb : Below wi.heap.size wi W5 := ((Below.refl _ _).alloc (Nat.le_refl _) _).trans hb5
          have HN5 := hid (HN.out.below hbb); have HX5 := hid (HXP.out.below hbb); have HB5 := hid (HBB.out.step hbb)
          clear hb5 hbb ho5 hq5 hg HOWN HLA HN HXP HBB
          go_loopw [16] (fun i wr => ∃ j : Nat, j ≤ tn ∧ i = .int .i64 j ∧ BoxIs wo.heap.size (intsV (ofF (ph2 p.ts pd n1 j).2 tn)) wr ∧ (0 < tn → BoxIs g (intsV (ofF (ph2 p.ts pd n1 j).1 tn)) wr) ∧ BoxIs (w.heap.size + 1) (intsV (ofF pd tn)) wr ∧ Boxed1 w #[.slice lp ln lc, .int .i64 p.reserve, .slice tp tn tc, .slice rp rn rc] 26 wr) (fun i _ => tn - (intOf i).toNat)
          case atStart => exact ⟨0, by omega, rfl, HN5.out, fun h => (HG.out h).2.2, HX5.out, HB5.out⟩
          case round =>
            clear HN5 HX5 HB5
            obtain ⟨j, hj, rfl, hn, hgr, hx, hb⟩ := hrel
            have HN := hid hn; have HGR := hid hgr; have HXP := hid hx; have HBB := hid hb
            clear hn hgr hx
            by_cases hjt : j < tn
            · obtain ⟨t, ht, b2, o2, rfl, hb2, hd0, hd1, hd2, hd3, hd4, hd5, hd6⟩ := (HP.out.below hb.below).tre hjt
              have HSU := hid (ph2_succ (pd := pd) (now := n1) ht)
              have HPH : Hid (Ph2 p.ts pd L j n1 (ph2 p.ts pd n1 j)) := hid (by have h := ph2_ok HTS.out th HPD.out hLb.1 j (by have := HTN.out; omega); rw [HN1.out] at h; exact h)
              have htv := HTS.out j t ht
              have HTV := hid htv.1
              have hpl := HPD.out.lo j; have hph := HPD.out.hi j
              obtain ⟨rf, hrf⟩ : ∃ z, (ph2 p.ts pd n1 j).1 = z := ⟨_, rfl⟩
              obtain ⟨nf, hnf⟩ : ∃ z, (ph2 p.ts pd n1 j).2 = z := ⟨_, rfl⟩
              rw [hnf] at HN
              rw [hrf] at HGR
              have HSP : Hid (ph2 p.ts pd n1 j = (rf, nf)) := hid (by rw [← hrf, ← hnf])
              have HTB := hid (takes_bd htv.1 (n := rf t.off.toNat) (bf := pd j) (by rw [← hrf]; exact HPH.out.r0 _) (HPD.out.cap j t ht))
              have hr0 : 0 ≤ rf t.off.toNat := by rw [← hrf]; exact HPH.out.r0 _
              have hr1 : rf t.off.toNat ≤ L := by rw [← hrf]; exact Int.le_trans (HPH.out.r1 _) (HPH.out.hi _)
              have hoj := htv.2.2
              clear ht htv hrf hnf
              have hg0 := HG.out (by omega)
              have HGL := hid hg0.2.1
              obtain rfl : q5 = some ⟨g, 0, none⟩ := hg0.1
              have HGB := hid (HGR.out (by omega))
              clear hg0
              have e2 := hb.cell 2 (v := .slice (some ⟨b2, o2, none⟩) tn tc) rfl
              clear hb
              obtain ⟨W6, hW6⟩ : ∃ V, wr.alloc (.cells #[.int .i64 t.kind, .int .i64 t.part, .int .i64 t.above, .int .i64 t.most, .int .i64 t.times, .int .i64 t.price, .int .i64 t.off] 94) = V := ⟨_, rfl⟩
              have hb6 : Below wr.heap.size wr W6 := by rw [← hW6]; exact (Below.refl _ _).alloc (Nat.le_refl _) _
              have HT6 : Hid (BoxIs wr.heap.size #[.int .i64 t.kind, .int .i64 t.part, .int .i64 t.above, .int .i64 t.most, .int .i64 t.times, .int .i64 t.price, .int .i64 t.off] W6) := by show BoxIs _ _ _; rw [← hW6]; exact BoxIs.start _ _ _
              have HN6 := hid (HN.out.below hb6); have HX6 := hid (HXP.out.below hb6); have HB6 := hid (HBB.out.step hb6); have HG6 := hid (HGB.out.below hb6)
              have HWL := hid HN.out.1
              have HWG := hid HGB.out.1
              clear hb6
              have f6 := (HT6.out.2 6 (.int .i64 t.off) rfl).1
              by_cases hoff : 0 ≤ t.off
              · have hoff2 : 0 ≤ t.off := hoff
                have hol : t.off.toNat < tn := by omega
                have hot : t.off < (tn : Int) := by omega
                have HOJ : Hid (t.off.toNat ≠ j) := hid (by omega)
                go_upto_region 22 with fail
                clear hW6 f6 e2
                refine wp_region_held_drew (S := fun V => Near (fun i => i = wo.heap.size) W6 V) (by kernel_rfl) ((Near.refl _ _).drew) (fun hS => ?_)
                simp only [List.size_toArray, List.length_cons, List.length_nil, Nat.reduceAdd, Array.replicate_succ, Array.replicate_zero, List.push_toArray, List.nil_append, List.cons_append]
                refine tkH (i := 0) (v := ?_) (fun V hV => ?_) ?_
                rotate_left
                · go_simp
                  try with_reducible rfl
                try simp only [Act.put, List.getElem_toArray, List.getElem_cons_zero, List.setIfInBounds_toArray, List.set_cons_zero, List.set_cons_succ]
                refine tkH (i := 1) (v := ?_) (fun V hV => ?_) ?_
                rotate_left
                · go_simp
                  try with_reducible rfl
                try simp only [Act.put, List.getElem_toArray, List.getElem_cons_zero, List.getElem_cons_succ, List.setIfInBounds_toArray, List.set_cons_zero, List.set_cons_succ]
                refine tkH (i := 2) (v := ?_) (fun V hV => ?_) ?_
                rotate_left
                · have f0 := ((HT6.out.far hV (by have := HWL.out; omega)).2 0 (.int .i64 t.kind) rfl).1; have f1 := ((HT6.out.far hV (by have := HWL.out; omega)).2 1 (.int .i64 t.part) rfl).1; have f2 := ((HT6.out.far hV (by have := HWL.out; omega)).2 2 (.int .i64 t.above) rfl).1; have f3 := ((HT6.out.far hV (by have := HWL.out; omega)).2 3 (.int .i64 t.most) rfl).1; have f4 := ((HT6.out.far hV (by have := HWL.out; omega)).2 4 (.int .i64 t.times) rfl).1; have f5 := ((HT6.out.far hV (by have := HWL.out; omega)).2 5 (.int .i64 t.price) rfl).1; have f6 := ((HT6.out.far hV (by have := HWL.out; omega)).2 6 (.int .i64 t.off) rfl).1; go_simp
                  try with_reducible rfl
                try simp only [Act.put, List.getElem_toArray, List.getElem_cons_zero, List.getElem_cons_succ, List.setIfInBounds_toArray, List.set_cons_zero, List.set_cons_succ]
                refine tkH (i := 3) (v := ?_) (fun V hV => ?_) ?_
                rotate_left
                · go_simp
                  try with_reducible rfl
                try simp only [Act.put, List.getElem_toArray, List.getElem_cons_zero, List.getElem_cons_succ, List.setIfInBounds_toArray, List.set_cons_zero, List.set_cons_succ]
                refine tkH (i := 4) (v := ?_) (fun V hV => ?_) ?_
                rotate_left
                · go_simp
                  try with_reducible rfl
                try simp only [Act.put, List.getElem_toArray, List.getElem_cons_zero, List.getElem_cons_succ, List.setIfInBounds_toArray, List.set_cons_zero, List.set_cons_succ]
                refine tkH (i := 5) (v := ?_) (fun V hV => ?_) ?_
                rotate_left
                · have f6 := ((HT6.out.far hV (by have := HWL.out; omega)).2 6 (.int .i64 t.off) rfl).1; go_simp
                  try with_reducible rfl
                try simp only [Act.put, List.getElem_toArray, List.getElem_cons_zero, List.getElem_cons_succ, List.setIfInBounds_toArray, List.set_cons_zero, List.set_cons_succ]
                refine tkH (i := 6) (v := ?_) (fun V hV => ?_) ?_
                rotate_left
                · go_simp
                  try with_reducible rfl
                try simp only [Act.put, List.getElem_toArray, List.getElem_cons_zero, List.getElem_cons_succ, List.setIfInBounds_toArray, List.set_cons_zero, List.set_cons_succ]
                refine tkH (i := 7) (v := ?_) (fun V hV => ?_) ?_
                rotate_left
                · have c0 := ((HG6.out.far hV (by have := HGL.out; have := HWI.out; omega)).at hol).1; go_simp
                  try with_reducible rfl
                try simp only [Act.put, List.getElem_toArray, List.getElem_cons_zero, List.getElem_cons_succ, List.setIfInBounds_toArray, List.set_cons_zero, List.set_cons_succ]
                refine tkH (i := 8) (v := ?_) (fun V hV => ?_) ?_
                rotate_left
                · go_simp
                  try with_reducible rfl
                try simp only [Act.put, List.getElem_toArray, List.getElem_cons_zero, List.getElem_cons_succ, List.setIfInBounds_toArray, List.set_cons_zero, List.set_cons_succ]
                refine tkH (i := 9) (v := ?_) (fun V hV => ?_) ?_
                rotate_left
                · go_simp
                  try with_reducible rfl
                try simp only [Act.put, List.getElem_toArray, List.getElem_cons_zero, List.getElem_cons_succ, List.setIfInBounds_toArray, List.set_cons_zero, List.set_cons_succ]
                refine tkH (i := 10) (v := ?_) (fun V hV => ?_) ?_
                rotate_left
                · go_simp
                  try with_reducible rfl
                try simp only [Act.put, List.getElem_toArray, List.getElem_cons_zero, List.getElem_cons_succ, List.setIfInBounds_toArray, List.set_cons_zero, List.set_cons_succ]
                refine tkH (i := 11) (v := ?_) (fun V hV => ?_) ?_
                rotate_left
                · have c0 := ((HX6.out.far hV (by have := HSZ.out; omega)).at hjt).1; go_simp
                  try with_reducible rfl
                try simp only [Act.put, List.getElem_toArray, List.getElem_cons_zero, List.getElem_cons_succ, List.setIfInBounds_toArray, List.set_cons_zero, List.set_cons_succ]
                refine wpAnyH_ready (rs := [12]) (by kernel_rfl) (by simp) ?_
                refine AllReadyH.cons (o := _) rfl (fun K hK => ?_) AllReadyH.nil
                go_simp
                (with_reducible refine (takesR_any t (rf t.off.toNat) (pd j) _ HTV.out (by omega) (by omega) (by omega) (by omega)).mono ?_)
                rintro e V8 ⟨rfl, hb8⟩
                have hbb := (show Below W6.heap.size W6 W6.drew from (Below.refl _ _).drew).trans hb8
                have HN8 := hid (HN6.out.below hbb); have HX8 := hid (HX6.out.below hbb); have HB8 := hid (HB6.out.step hbb); have HT8 := hid (HT6.out.below hbb); have HG8 := hid (HG6.out.below hbb)
                have hNE := hS.trans (near_below (S := fun i => i = wo.heap.size) hb8)
                clear hb8 hbb hS
                refine hK.out _ _ (hNE) (fun hS => ?_)
                clear hK K
                try simp only [List.setIfInBounds_toArray, List.set_cons_zero, List.set_cons_succ]
                refine tkH (i := 13) (v := ?_) (fun V hV => ?_) ?_
                rotate_left
                · go_simp
                  try with_reducible rfl
                try simp only [Act.put, List.getElem_toArray, List.getElem_cons_zero, List.getElem_cons_succ, List.setIfInBounds_toArray, List.set_cons_zero, List.set_cons_succ]
                refine wpAnyH_ready (rs := [14]) (by kernel_rfl) (by simp) ?_
                refine AllReadyH.cons (o := _) rfl (fun K hK => ?_) AllReadyH.nil
                obtain ⟨z, hz⟩ : ∃ z, takesT t (rf t.off.toNat) (pd j) = z := ⟨_, rfl⟩
                have HZ := hid hz
                rw [hz]
                clear hz
                have ⟨c1, f1⟩ := HN8.out.at hjt
                obtain ⟨V10, hV10⟩ : ∃ V, V8.setCell ⟨wo.heap.size, j, none⟩ (.int .i64 z) = V := ⟨_, rfl⟩
                have HN10 : Hid (BoxIs wo.heap.size (intsV (ofF (updI nf j z) tn)) V10) := by show BoxIs _ _ _; rw [← hV10]; exact HN8.out.upd hjt z
                have hn10 : Near (fun i => i = wo.heap.size) V8 V10 := by rw [← hV10]; exact (Near.refl (fun i => i = wo.heap.size) _).setCell (p := ⟨wo.heap.size, j, none⟩) (fun _ => rfl) _
                have HX10 := hid (HX8.out.far hn10 (by have := HSZ.out; omega)); have HG10 := hid (HG8.out.far hn10 (by have := HGL.out; have := HWI.out; omega)); have HT10 := hid (HT8.out.far hn10 (by have := HWL.out; omega)); have HB10 : Hid (Boxed1 w #[.slice lp ln lc, .int .i64 p.reserve, .slice (some ⟨b2, o2, none⟩) tn tc, .slice rp rn rc] 26 V10) := hid (HB8.out.step' (hn10.below (by have := HN8.out.1; have := HSZ.out; omega) (fun i hi e => by have := HSZ.out; omega)))
                have hNE := hS.trans hn10
                clear hn10 hS
                go_simp
                clear c1 f1
                refine hK.out _ _ (hNE) (fun hS => ?_)
                clear hK K
                try simp only [List.setIfInBounds_toArray, List.set_cons_zero, List.set_cons_succ]
                refine wpAnyH_done (by kernel_rfl) ?_ _
                clear hS
                have hzb := HTB.out
                rw [HZ.out] at hzb
                have c1 := (HN10.out.at hjt).1
                rw [updI_same] at c1
                have ⟨c2, f2⟩ := HG10.out.at hjt
                obtain ⟨V11, hV11⟩ : ∃ V, V10.setCell ⟨g, j, none⟩ (.int .i64 z) = V := ⟨_, rfl⟩
                have HG11 : Hid (BoxIs g (intsV (ofF (updI rf j z) tn)) V11) := by show BoxIs _ _ _; rw [← hV11]; exact HG10.out.upd hjt z
                have hn11 : Near (fun i => i = g) V10 V11 := by rw [← hV11]; exact (Near.refl (fun i => i = g) _).setCell (p := ⟨g, j, none⟩) (fun _ => rfl) _
                have HX11 := hid (HX10.out.far hn11 (by have := HGL.out; have := HWI.out; have := HSZ.out; omega)); have HN11 := hid (HN10.out.far hn11 (by have := HGL.out; have := HWI.out; omega)); have HT11 := hid (HT10.out.far hn11 (by have := HWG.out; omega)); have HB11 : Hid (Boxed1 w #[.slice lp ln lc, .int .i64 p.reserve, .slice (some ⟨b2, o2, none⟩) tn tc, .slice rp rn rc] 26 V11) := hid (HB10.out.step' (hn11.below (by have := HN10.out.1; have := HSZ.out; omega) (fun i hi e => by have := HSZ.out; have := HGL.out; have := HWI.out; omega)))
                clear hn11
                go_upto_region 24 with fail
                clear c1 c2 f2 hV11
                refine wp_region_listed (S := fun l V => True ∧ (l.getD 11 true = false → V = V11.drew)) (by kernel_rfl) (⟨trivial, fun _ => rfl⟩) (fun hS => ?_)
                simp only [List.size_toArray, List.length_cons, List.length_nil, Nat.reduceAdd, Array.replicate_succ, Array.replicate_zero, List.push_toArray, List.nil_append, List.cons_append]
                refine anyL_take [] (i := 0) (v := ?_) rfl (by kernel_rfl) (by kernel_rfl) (by kernel_rfl) (fun _ _ _ h => h) (by kernel_rfl) (by kernel_rfl) (fun _ _ => and_congr Iff.rfl (imp_congr (getD_set_iff (by decide)) Iff.rfl)) (Or.inl ⟨by rfl, fun V hV => ?_⟩) (by assumption) ?_
                rotate_left
                · go_simp
                  try with_reducible rfl
                try simp only [Act.put, List.getElem_toArray, List.getElem_cons_zero, List.setIfInBounds_toArray, List.set_cons_zero, List.set_cons_succ]
                refine anyL_take [] (i := 1) (v := ?_) rfl (by kernel_rfl) (by kernel_rfl) (by kernel_rfl) (fun _ _ _ h => h) (by kernel_rfl) (by kernel_rfl) (fun _ _ => and_congr Iff.rfl (imp_congr (getD_set_iff (by decide)) Iff.rfl)) (Or.inl ⟨by rfl, fun V hV => ?_⟩) (by assumption) ?_
                rotate_left
                · go_simp
                  try with_reducible rfl
                try simp only [Act.put, List.getElem_toArray, List.getElem_cons_zero, List.getElem_cons_succ, List.setIfInBounds_toArray, List.set_cons_zero, List.set_cons_succ]
                refine anyL_take [11] (i := 2) (v := ?_) rfl (by kernel_rfl) (by kernel_rfl) (by kernel_rfl) (fun _ _ _ h => h) (by kernel_rfl) (by kernel_rfl) (fun _ _ => and_congr Iff.rfl (imp_congr (getD_set_iff (by decide)) Iff.rfl)) (Or.inl ⟨by rfl, fun V hV => ?_⟩) (by assumption) ?_
                rotate_left
                · obtain ⟨l, hn, hV⟩ := hV; obtain rfl := hV.2 (hn 11 (by simp)); have f6 := (HT11.out.2 6 (.int .i64 t.off) rfl).1; go_simp
                  try with_reducible rfl
                try simp only [Act.put, List.getElem_toArray, List.getElem_cons_zero, List.getElem_cons_succ, List.setIfInBounds_toArray, List.set_cons_zero, List.set_cons_succ]
                refine anyL_take [] (i := 3) (v := ?_) rfl (by kernel_rfl) (by kernel_rfl) (by kernel_rfl) (fun _ _ _ h => h) (by kernel_rfl) (by kernel_rfl) (fun _ _ => and_congr Iff.rfl (imp_congr (getD_set_iff (by decide)) Iff.rfl)) (Or.inl ⟨by rfl, fun V hV => ?_⟩) (by assumption) ?_
                rotate_left
                · go_simp
                  try with_reducible rfl
                try simp only [Act.put, List.getElem_toArray, List.getElem_cons_zero, List.getElem_cons_succ, List.setIfInBounds_toArray, List.set_cons_zero, List.set_cons_succ]
                refine anyL_take [11] (i := 4) (v := ?_) rfl (by kernel_rfl) (by kernel_rfl) (by kernel_rfl) (fun _ _ _ h => h) (by kernel_rfl) (by kernel_rfl) (fun _ _ => and_congr Iff.rfl (imp_congr (getD_set_iff (by decide)) Iff.rfl)) (Or.inl ⟨by rfl, fun V hV => ?_⟩) (by assumption) ?_
                rotate_left
                · obtain ⟨l, hn, hV⟩ := hV; obtain rfl := hV.2 (hn 11 (by simp)); have c0 := (HG11.out.at hol).1; rw [updI_ne _ _ HOJ.out] at c0; go_simp
                  try with_reducible rfl
                try simp only [Act.put, List.getElem_toArray, List.getElem_cons_zero, List.getElem_cons_succ, List.setIfInBounds_toArray, List.set_cons_zero, List.set_cons_succ]
                refine anyL_take [] (i := 5) (v := ?_) rfl (by kernel_rfl) (by kernel_rfl) (by kernel_rfl) (fun _ _ _ h => h) (by kernel_rfl) (by kernel_rfl) (fun _ _ => and_congr Iff.rfl (imp_congr (getD_set_iff (by decide)) Iff.rfl)) (Or.inl ⟨by rfl, fun V hV => ?_⟩) (by assumption) ?_
                rotate_left
                · go_simp
                  try with_reducible rfl
                try simp only [Act.put, List.getElem_toArray, List.getElem_cons_zero, List.getElem_cons_succ, List.setIfInBounds_toArray, List.set_cons_zero, List.set_cons_succ]
                refine anyL_take [] (i := 6) (v := ?_) rfl (by kernel_rfl) (by kernel_rfl) (by kernel_rfl) (fun _ _ _ h => h) (by kernel_rfl) (by kernel_rfl) (fun _ _ => and_congr Iff.rfl (imp_congr (getD_set_iff (by decide)) Iff.rfl)) (Or.inl ⟨by rfl, fun V hV => ?_⟩) (by assumption) ?_
                rotate_left
                · go_simp
                  try with_reducible rfl
                try simp only [Act.put, List.getElem_toArray, List.getElem_cons_zero, List.getElem_cons_succ, List.setIfInBounds_toArray, List.set_cons_zero, List.set_cons_succ]
                refine anyL_take [] (i := 7) (v := ?_) rfl (by kernel_rfl) (by kernel_rfl) (by kernel_rfl) (fun _ _ _ h => h) (by kernel_rfl) (by kernel_rfl) (fun _ _ => and_congr Iff.rfl (imp_congr (getD_set_iff (by decide)) Iff.rfl)) (Or.inl ⟨by rfl, fun V hV => ?_⟩) (by assumption) ?_
                rotate_left
                · go_simp
                  try with_reducible rfl
                try simp only [Act.put, List.getElem_toArray, List.getElem_cons_zero, List.getElem_cons_succ, List.setIfInBounds_toArray, List.set_cons_zero, List.set_cons_succ]
                refine anyL_take [11] (i := 8) (v := ?_) rfl (by kernel_rfl) (by kernel_rfl) (by kernel_rfl) (fun _ _ _ h => h) (by kernel_rfl) (by kernel_rfl) (fun _ _ => and_congr Iff.rfl (imp_congr (getD_set_iff (by decide)) Iff.rfl)) (Or.inl ⟨by rfl, fun V hV => ?_⟩) (by assumption) ?_
                rotate_left
                · obtain ⟨l, hn, hV⟩ := hV; obtain rfl := hV.2 (hn 11 (by simp)); have c0 := (HN11.out.at hjt).1; rw [updI_same] at c0; go_simp
                  try with_reducible rfl
                try simp only [Act.put, List.getElem_toArray, List.getElem_cons_zero, List.getElem_cons_succ, List.setIfInBounds_toArray, List.set_cons_zero, List.set_cons_succ]
                refine anyL_take [] (i := 9) (v := ?_) rfl (by kernel_rfl) (by kernel_rfl) (by kernel_rfl) (fun _ _ _ h => h) (by kernel_rfl) (by kernel_rfl) (fun _ _ => and_congr Iff.rfl (imp_congr (getD_set_iff (by decide)) Iff.rfl)) (Or.inl ⟨by rfl, fun V hV => ?_⟩) (by assumption) ?_
                rotate_left
                · go_simp
                  try with_reducible rfl
                try simp only [Act.put, List.getElem_toArray, List.getElem_cons_zero, List.getElem_cons_succ, List.setIfInBounds_toArray, List.set_cons_zero, List.set_cons_succ]
                refine anyL_take [] (i := 10) (v := ?_) rfl (by kernel_rfl) (by kernel_rfl) (by kernel_rfl) (fun _ _ _ h => h) (by kernel_rfl) (by kernel_rfl) (fun _ _ => and_congr Iff.rfl (imp_congr (getD_set_iff (by decide)) Iff.rfl)) (Or.inl ⟨by rfl, fun V hV => ?_⟩) (by assumption) ?_
                rotate_left
                · go_simp
                  try with_reducible rfl
                try simp only [Act.put, List.getElem_toArray, List.getElem_cons_zero, List.getElem_cons_succ, List.setIfInBounds_toArray, List.set_cons_zero, List.set_cons_succ]
                refine anyL_one (i := 11) (o := _) (by kernel_rfl) rfl (fun K hK => ?_)
                have ⟨c1, f1⟩ := HG11.out.at hol
                have hw9 : IntKind.i64.wrap (rf t.off.toNat - z) = rf t.off.toNat - z := IntWalk.i64_in _ (by omega)
                obtain ⟨V12, hV12⟩ : ∃ V, V11.setCell ⟨g, t.off.toNat, none⟩ (.int .i64 (rf t.off.toNat - z)) = V := ⟨_, rfl⟩
                have HG12 : Hid (BoxIs g (intsV (ofF (updI (updI rf j z) t.off.toNat (rf t.off.toNat - z)) tn)) V12) := by show BoxIs _ _ _; rw [← hV12]; exact HG11.out.upd hol _
                have hn12 : Near (fun i => i = g) V11 V12 := by rw [← hV12]; exact (Near.refl (fun i => i = g) _).setCell (p := ⟨g, t.off.toNat, none⟩) (fun _ => rfl) _
                have HX12 := hid (HX11.out.far hn12 (by have := HGL.out; have := HWI.out; have := HSZ.out; omega)); have HN12 := hid (HN11.out.far hn12 (by have := HGL.out; have := HWI.out; omega)); have HB12 : Hid (Boxed1 w #[.slice lp ln lc, .int .i64 p.reserve, .slice (some ⟨b2, o2, none⟩) tn tc, .slice rp rn rc] 26 V12) := hid (HB11.out.step' (hn12.below (by have := HN11.out.1; have := HSZ.out; omega) (fun i hi e => by have := HSZ.out; have := HGL.out; have := HWI.out; omega)))
                clear hn12
                go_simp
                clear c1 f1
                refine hK.out _ _ (⟨trivial, fun h => absurd h (by decide)⟩) (fun hS => ?_)
                clear hK K
                try simp only [List.setIfInBounds_toArray, List.set_cons_zero, List.set_cons_succ]
                refine anyL_done (by kernel_rfl) ?_ _
                clear hS
                have HF : Hid (ph2 p.ts pd n1 (j + 1) = (updI (updI rf j z) t.off.toNat (rf t.off.toNat - z), updI nf j z)) := hid (by rw [HSU.out, HSP.out, tk2, if_pos hoff2]; show (updI (updI rf _ (_ - takesT t (rf t.off.toNat) (pd j))) j (takesT t (rf t.off.toNat) (pd j)), updI nf j (takesT t (rf t.off.toNat) (pd j))) = _; rw [HZ.out, updI_comm HOJ.out])
                go_wp2_with fail
                go_roundw
                case rel => exact ⟨j + 1, by omega, by go_num, by rw [HF.out]; exact HN12.out, fun _ => by rw [HF.out]; exact HG12.out, HX12.out, HB12.out.drew⟩
                case measure => simp [intOf]; omega
              · have hoff2 : t.off < 0 := by omega
                have HF : Hid (ph2 p.ts pd n1 (j + 1) = (rf, nf)) := hid (by rw [HSU.out, HSP.out, tk2, if_neg hoff])
                clear hoff
                go_wp2_with fail
                go_roundw
                case rel => exact ⟨j + 1, by omega, by go_num, by rw [HF.out]; exact HN6.out, fun _ => by rw [HF.out]; exact HG6.out, HX6.out, HB6.out⟩
                case measure => simp [intOf]; omega
            · obtain rfl : tn = j := by omega
              obtain ⟨nw, hnw⟩ : ∃ f, nowO p.ts th pd L = f := ⟨_, rfl⟩
              have HNW : Hid ((ph2 p.ts pd n1 tn).2 = nw) := hid (by rw [← hnw, nowO, HN1.out, ← HTN.out])
              rw [hnw] at HGO HNO
              rw [HNW.out] at HN
              have HND := hid (fun i => by have h1 := HNO.out.1.lo i; have h2 := HNO.out.1.hi i; have h3 := HPD.out.lo i; have h4 := HPD.out.hi i; exact (⟨h1, h2, h3, h4⟩ : 0 ≤ pd i + nw i ∧ pd i + nw i ≤ 1000 * k + 1000 ∧ 0 ≤ pd i ∧ pd i ≤ 1000 * k))
              clear hnw hj
              have e2 := hb.cell 2 (v := .slice tp tn tc) rfl
              clear hb
              have HN7 := HN; have HX7 := HXP; have HB7 := HBB
              go_wp2_with fail
              clear e2 hjt
              go_loopw [18] (fun i wr => ∃ j : Nat, j ≤ tn ∧ i = .int .i64 j ∧ BoxIs wo.heap.size (intsV (ofF nw tn)) wr ∧ BoxIs (w.heap.size + 1) (intsV (ofF (mixF pd nw j) tn)) wr ∧ Boxed1 w #[.slice lp ln lc, .int .i64 p.reserve, .slice tp tn tc, .slice rp rn rc] 26 wr) (fun i _ => tn - (intOf i).toNat)
              case atStart => exact ⟨0, by omega, rfl, HN7.out, by rw [mix_zero]; exact HX7.out, HB7.out⟩
              case round =>
                clear HN7 HX7 HB7 HN HXP HBB HGR
                obtain ⟨j, hj, rfl, hn, hx, hb⟩ := hrel
                have HN := hid hn; have HXP := hid hx; have HBB := hid hb
                clear hn hx
                have e2 := hb.cell 2 (v := .slice tp tn tc) rfl
                clear hb
                by_cases hjt : j < tn
                · have hnd := HND.out j
                  go_upto_region 28 with fail
                  clear e2
                  refine wp_region_listed (S := fun l V => True ∧ (l.getD 10 true = false → V = wr.drew)) (by kernel_rfl) (⟨trivial, fun _ => rfl⟩) (fun hS => ?_)
                  simp only [List.size_toArray, List.length_cons, List.length_nil, Nat.reduceAdd, Array.replicate_succ, Array.replicate_zero, List.push_toArray, List.nil_append, List.cons_append]
                  refine anyL_take [] (i := 0) (v := ?_) rfl (by kernel_rfl) (by kernel_rfl) (by kernel_rfl) (fun _ _ _ h => h) (by kernel_rfl) (by kernel_rfl) (fun _ _ => and_congr Iff.rfl (imp_congr (getD_set_iff (by decide)) Iff.rfl)) (Or.inl ⟨by rfl, fun V hV => ?_⟩) (by assumption) ?_
                  rotate_left
                  · go_simp
                    try with_reducible rfl
                  try simp only [Act.put, List.getElem_toArray, List.getElem_cons_zero, List.setIfInBounds_toArray, List.set_cons_zero, List.set_cons_succ]
                  refine anyL_take [] (i := 1) (v := ?_) rfl (by kernel_rfl) (by kernel_rfl) (by kernel_rfl) (fun _ _ _ h => h) (by kernel_rfl) (by kernel_rfl) (fun _ _ => and_congr Iff.rfl (imp_congr (getD_set_iff (by decide)) Iff.rfl)) (Or.inl ⟨by rfl, fun V hV => ?_⟩) (by assumption) ?_
                  rotate_left
                  · go_simp
                    try with_reducible rfl
                  try simp only [Act.put, List.getElem_toArray, List.getElem_cons_zero, List.getElem_cons_succ, List.setIfInBounds_toArray, List.set_cons_zero, List.set_cons_succ]
                  refine anyL_take [] (i := 2) (v := ?_) rfl (by kernel_rfl) (by kernel_rfl) (by kernel_rfl) (fun _ _ _ h => h) (by kernel_rfl) (by kernel_rfl) (fun _ _ => and_congr Iff.rfl (imp_congr (getD_set_iff (by decide)) Iff.rfl)) (Or.inl ⟨by rfl, fun V hV => ?_⟩) (by assumption) ?_
                  rotate_left
                  · go_simp
                    try with_reducible rfl
                  try simp only [Act.put, List.getElem_toArray, List.getElem_cons_zero, List.getElem_cons_succ, List.setIfInBounds_toArray, List.set_cons_zero, List.set_cons_succ]
                  refine anyL_take [10] (i := 3) (v := ?_) rfl (by kernel_rfl) (by kernel_rfl) (by kernel_rfl) (fun _ _ _ h => h) (by kernel_rfl) (by kernel_rfl) (fun _ _ => and_congr Iff.rfl (imp_congr (getD_set_iff (by decide)) Iff.rfl)) (Or.inl ⟨by rfl, fun V hV => ?_⟩) (by assumption) ?_
                  rotate_left
                  · obtain ⟨l, hn, hV⟩ := hV; obtain rfl := hV.2 (hn 10 (by simp)); have c0 := (HXP.out.at hjt).1; rw [mix_at] at c0; go_simp
                    try with_reducible rfl
                  try simp only [Act.put, List.getElem_toArray, List.getElem_cons_zero, List.getElem_cons_succ, List.setIfInBounds_toArray, List.set_cons_zero, List.set_cons_succ]
                  refine anyL_take [] (i := 4) (v := ?_) rfl (by kernel_rfl) (by kernel_rfl) (by kernel_rfl) (fun _ _ _ h => h) (by kernel_rfl) (by kernel_rfl) (fun _ _ => and_congr Iff.rfl (imp_congr (getD_set_iff (by decide)) Iff.rfl)) (Or.inl ⟨by rfl, fun V hV => ?_⟩) (by assumption) ?_
                  rotate_left
                  · go_simp
                    try with_reducible rfl
                  try simp only [Act.put, List.getElem_toArray, List.getElem_cons_zero, List.getElem_cons_succ, List.setIfInBounds_toArray, List.set_cons_zero, List.set_cons_succ]
                  refine anyL_take [] (i := 5) (v := ?_) rfl (by kernel_rfl) (by kernel_rfl) (by kernel_rfl) (fun _ _ _ h => h) (by kernel_rfl) (by kernel_rfl) (fun _ _ => and_congr Iff.rfl (imp_congr (getD_set_iff (by decide)) Iff.rfl)) (Or.inl ⟨by rfl, fun V hV => ?_⟩) (by assumption) ?_
                  rotate_left
                  · go_simp
                    try with_reducible rfl
                  try simp only [Act.put, List.getElem_toArray, List.getElem_cons_zero, List.getElem_cons_succ, List.setIfInBounds_toArray, List.set_cons_zero, List.set_cons_succ]
                  refine anyL_take [] (i := 6) (v := ?_) rfl (by kernel_rfl) (by kernel_rfl) (by kernel_rfl) (fun _ _ _ h => h) (by kernel_rfl) (by kernel_rfl) (fun _ _ => and_congr Iff.rfl (imp_congr (getD_set_iff (by decide)) Iff.rfl)) (Or.inl ⟨by rfl, fun V hV => ?_⟩) (by assumption) ?_
                  rotate_left
                  · go_simp
                    try with_reducible rfl
                  try simp only [Act.put, List.getElem_toArray, List.getElem_cons_zero, List.getElem_cons_succ, List.setIfInBounds_toArray, List.set_cons_zero, List.set_cons_succ]
                  refine anyL_take [10] (i := 7) (v := ?_) rfl (by kernel_rfl) (by kernel_rfl) (by kernel_rfl) (fun _ _ _ h => h) (by kernel_rfl) (by kernel_rfl) (fun _ _ => and_congr Iff.rfl (imp_congr (getD_set_iff (by decide)) Iff.rfl)) (Or.inl ⟨by rfl, fun V hV => ?_⟩) (by assumption) ?_
                  rotate_left
                  · obtain ⟨l, hn, hV⟩ := hV; obtain rfl := hV.2 (hn 10 (by simp)); have c0 := (HN.out.at hjt).1; go_simp
                    try with_reducible rfl
                  try simp only [Act.put, List.getElem_toArray, List.getElem_cons_zero, List.getElem_cons_succ, List.setIfInBounds_toArray, List.set_cons_zero, List.set_cons_succ]
                  refine anyL_take [] (i := 8) (v := ?_) rfl (by kernel_rfl) (by kernel_rfl) (by kernel_rfl) (fun _ _ _ h => h) (by kernel_rfl) (by kernel_rfl) (fun _ _ => and_congr Iff.rfl (imp_congr (getD_set_iff (by decide)) Iff.rfl)) (Or.inl ⟨by rfl, fun V hV => ?_⟩) (by assumption) ?_
                  rotate_left
                  · go_simp
                    try with_reducible rfl
                  try simp only [Act.put, List.getElem_toArray, List.getElem_cons_zero, List.getElem_cons_succ, List.setIfInBounds_toArray, List.set_cons_zero, List.set_cons_succ]
                  refine anyL_take [] (i := 9) (v := ?_) rfl (by kernel_rfl) (by kernel_rfl) (by kernel_rfl) (fun _ _ _ h => h) (by kernel_rfl) (by kernel_rfl) (fun _ _ => and_congr Iff.rfl (imp_congr (getD_set_iff (by decide)) Iff.rfl)) (Or.inl ⟨by rfl, fun V hV => ?_⟩) (by assumption) ?_
                  rotate_left
                  · go_simp
                    try with_reducible rfl
                  try simp only [Act.put, List.getElem_toArray, List.getElem_cons_zero, List.getElem_cons_succ, List.setIfInBounds_toArray, List.set_cons_zero, List.set_cons_succ]
                  refine anyL_one (i := 10) (o := _) (by kernel_rfl) rfl (fun K hK => ?_)
                  have ⟨c1, f1⟩ := HXP.out.at hjt
                  have hw9 : IntKind.i64.wrap (pd j + nw j) = pd j + nw j := IntWalk.i64_in _ (by omega)
                  obtain ⟨V12, hV12⟩ : ∃ V, wr.setCell ⟨w.heap.size + 1, j, none⟩ (.int .i64 (pd j + nw j)) = V := ⟨_, rfl⟩
                  have HX12 : Hid (BoxIs (w.heap.size + 1) (intsV (ofF (mixF pd nw (j + 1)) tn)) V12) := by show BoxIs _ _ _; rw [← hV12, ← mix_succ]; exact HXP.out.upd hjt _
                  have hn12 : Near (fun i => i = w.heap.size + 1) wr V12 := by rw [← hV12]; exact (Near.refl (fun i => i = w.heap.size + 1) _).setCell (p := ⟨w.heap.size + 1, j, none⟩) (fun _ => rfl) _
                  have HN12 := hid (HN.out.far hn12 (by have := HSZ.out; omega)); have HB12 : Hid (Boxed1 w #[.slice lp ln lc, .int .i64 p.reserve, .slice tp tn tc, .slice rp rn rc] 26 V12) := hid (HBB.out.step' (hn12.below (by have := HXP.out.1; omega) (fun i hi e => by omega)))
                  clear hn12
                  go_simp
                  clear c1 f1
                  refine hK.out _ _ (⟨trivial, fun h => absurd h (by decide)⟩) (fun hS => ?_)
                  clear hK K
                  try simp only [List.setIfInBounds_toArray, List.set_cons_zero, List.set_cons_succ]
                  refine anyL_done (by kernel_rfl) ?_ _
                  clear hS
                  go_wp2_with fail
                  go_roundw
                  case rel => exact ⟨j + 1, by omega, by go_num, HN12.out, HX12.out, HB12.out.drew⟩
                  case measure => simp [intOf]; omega
                · obtain rfl : tn = j := by omega
                  have HXE : Hid (BoxIs (w.heap.size + 1) (intsV (ofF (fun i => pd i + nw i) tn)) wr) := hid (by have h := HXP.out; rwa [mix_end] at h)
                  rw [HKP.out] at HGO
                  have HPE : Hid (PdOk p.ts (fun i => pd i + nw i) (1000 * ((k + 1 : Nat) : Int))) := hid (by have h := HNO.out.1; rwa [show (1000 : Int) * k + 1000 = 1000 * ((k + 1 : Nat) : Int) by push_cast; omega] at h)
                  go_wp2_with fail
                  go_roundw
                  case rel => exact ⟨k + 1, (fun i => pd i + nw i), net + kp, by omega, rfl, by go_num, HGO.out, HPE.out, by omega, HXE.out, HBB.out⟩
                  case measure => simp [intOf]; omega
    · have HF : Hid ((pd, net) = totS p.ts th l (zeroF, 0)) := by show _ = _; rw [← HR.out, List.drop_of_length_le (by have := HMN.out; omega)]; rfl
      clear hb
      go_wp2_with fail
      go_ret2
      refine ⟨by rw [paysS, ← HF.out]; rfl, ?_, HB.out.below⟩
      rw [paysS, ← HF.out]
      have h := HX.out.ints
      rwa [ofF_len] at h
theorem pays_any (p : Prg) (lp : Option Addr) (ln lc : Nat) (tp : Option Addr) (tn tc : Nat) (rp : Option Addr) (rn rc : Nat) (q : Option Addr) (m c : Nat) (l : List Int) (bits : Int) (w : World) (hp : PrgAt w p lp ln tp tn rp rn) (hl : IntsAt w q m l) (htn : tn ≤ 5) (hm : m ≤ 100) (hts : OkTs p.ts) (hlb : ∀ x ∈ l, 0 ≤ x ∧ x ≤ 1000) (h0 : 0 ≤ bits) (h1 : bits < 4096) :
    Calls Try.prog 26 #[.agg #[.slice lp ln lc, .int .i64 p.reserve, .slice tp tn tc, .slice rp rn rc], .slice q m c, .int .i64 bits] w (PaysPost (paysS p.ts (bitB bits) l) tn w) :=
  (pays_at p lp ln lc tp tn tc rp rn rc q m c l bits w hp hl htn hm hts hlb h0 h1).mono fun _ _ h => ⟨_, _, h.1, h.2⟩
end Go.Proofs.Ytaioobhblfnlaaa
