/- Package treaty: a treaty takes of what is left. No condition but small numbers. -/
import Derived.Test.YtaioobhblfnlaaaK
namespace Go.Proofs.Ytaioobhblfnlaaa
open Go.RowKit


set_option maxRecDepth 40000 in
set_option maxHeartbeats 4000000 in
theorem take1_any (p : Prg) (lp : Option Addr) (ln lc : Nat) (tp : Option Addr) (tn tc : Nat) (rp : Option Addr) (rn rc : Nat) (th : Nat → Bool) (bm bw b2 b3 b5 b7 i : Nat) (t : Tre) (loss kp : Int) (pd f rs : Nat → Int) (w0 w : World) (hb0 : Below w0.heap.size w0 w) (hp : RowsAt cellsT 7 w0 tp tn p.ts) (hwk : BoxIs bw (workC p lp ln lc tp tn tc rp rn rc th bm) w0)
    (h2 : BoxIs b2 #[.pointer (some ⟨bw, 0, none⟩)] w) (h3 : BoxIs b3 (staC loss pd) w) (h5 : BoxIs b5 (resC f kp) w) (h7 : BoxIs b7 (amoC rs) w) (hlt : b3 < b5 ∧ b5 < b7) (ht : p.ts[i]? = some t) (htn : tn ≤ 5) (hv : treV t = true)
    (hk : 0 ≤ kp ∧ kp ≤ 100000) (hpd : 0 ≤ pd i ∧ pd i ≤ 100000) (hf : 0 ≤ f i ∧ f i ≤ 100000) (hz : 0 ≤ (takesT t kp (pd i)) ∧ (takesT t kp (pd i)) ≤ 100000) :
    Calls Try.prog 125 #[.int .i64 (i : Int), .pointer (some ⟨b5, 5, none⟩), .pointer (some ⟨b2, 0, none⟩), .pointer (some ⟨b3, 0, none⟩), .pointer (some ⟨b7, 0, none⟩), .pointer (some ⟨b5, 0, none⟩)] w fun e w' => (∃ v, e = .returned v) ∧ BoxIs b7 (amoC (updI rs i (takesT t kp (pd i)))) w' ∧ BoxIs b5 (resC (updI f i (f i + (takesT t kp (pd i)))) (kp - (takesT t kp (pd i)))) w' ∧ Near (fun k => k = b5 ∨ k = b7) w w' := by
  have H2 := hid h2; have H3 := hid h3; have H5 := hid h5; have H7 := hid h7; have HP := hid hp; have HW := hid hwk; have HT := hid ht; have HB0 := hid hb0; have HV := hid hv
  have hit : i < tn := by rw [hp.1]; exact (List.getElem?_eq_some_iff.1 ht).1
  have hi5 : i < 5 := by omega
  have hi6 : (i : Int) < 5 := by omega
  obtain ⟨t0, ht0, b1, o1, rfl, hb1, _⟩ := hp.tre hit
  clear h2 h3 h5 h7 hp hwk ht hb0 hv ht0
  go_enter Try.func125, Try.ntmps125
  go_upto_region 0 with fail
  refine wp_region_held_drew (S := fun V => Below w.heap.size w V) (by kernel_rfl) ((Below.refl _ _).drew) (fun hS => ?_)
  simp only [List.size_toArray, List.length_cons, List.length_nil, Nat.reduceAdd, Array.replicate_succ, Array.replicate_zero, List.push_toArray, List.nil_append, List.cons_append]
  refine tkH (i := 0) (v := ?_) (fun V hV => ?_) ?_
  rotate_left
  · have c0 := ((H2.out.below hV).2 0 (.pointer (some ⟨bw, 0, none⟩)) rfl).1; go_simp
    try with_reducible rfl
  try simp only [Act.put, List.getElem_toArray, List.getElem_cons_zero, List.setIfInBounds_toArray, List.set_cons_zero, List.set_cons_succ]
  refine tkH (i := 1) (v := ?_) (fun V hV => ?_) ?_
  rotate_left
  · go_simp
    try with_reducible rfl
  try simp only [Act.put, List.getElem_toArray, List.getElem_cons_zero, List.getElem_cons_succ, List.setIfInBounds_toArray, List.set_cons_zero, List.set_cons_succ]
  refine tkH (i := 2) (v := ?_) (fun V hV => ?_) ?_
  rotate_left
  · go_simp
    try with_reducible rfl
  try simp only [Act.put, List.getElem_toArray, List.getElem_cons_zero, List.getElem_cons_succ, List.setIfInBounds_toArray, List.set_cons_zero, List.set_cons_succ]
  refine tkH (i := 3) (v := ?_) (fun V hV => ?_) ?_
  rotate_left
  · go_simp
    try with_reducible rfl
  try simp only [Act.put, List.getElem_toArray, List.getElem_cons_zero, List.getElem_cons_succ, List.setIfInBounds_toArray, List.set_cons_zero, List.set_cons_succ]
  refine tkH (i := 4) (v := ?_) (fun V hV => ?_) ?_
  rotate_left
  · have c0 := ((HW.out.below (HB0.out.trans (hV.mono HB0.out.size))).2 2 (.slice (some ⟨b1, o1, none⟩) tn tc) rfl).1; go_simp
    try with_reducible rfl
  try simp only [Act.put, List.getElem_toArray, List.getElem_cons_zero, List.getElem_cons_succ, List.setIfInBounds_toArray, List.set_cons_zero, List.set_cons_succ]
  refine tkH (i := 5) (v := ?_) (fun V hV => ?_) ?_
  rotate_left
  · go_simp
    try with_reducible rfl
  try simp only [Act.put, List.getElem_toArray, List.getElem_cons_zero, List.getElem_cons_succ, List.setIfInBounds_toArray, List.set_cons_zero, List.set_cons_succ]
  refine tkH (i := 6) (v := ?_) (fun V hV => ?_) ?_
  rotate_left
  · go_simp
    try with_reducible rfl
  try simp only [Act.put, List.getElem_toArray, List.getElem_cons_zero, List.getElem_cons_succ, List.setIfInBounds_toArray, List.set_cons_zero, List.set_cons_succ]
  refine tkH (i := 7) (v := ?_) (fun V hV => ?_) ?_
  rotate_left
  · have ⟨c0, c1, c2, c3, c4, c5, c6⟩ := tre_again (HP.out.below (HB0.out.trans (hV.mono HB0.out.size))) HT.out; go_simp
    try with_reducible rfl
  try simp only [Act.put, List.getElem_toArray, List.getElem_cons_zero, List.getElem_cons_succ, List.setIfInBounds_toArray, List.set_cons_zero, List.set_cons_succ]
  refine tkH (i := 8) (v := ?_) (fun V hV => ?_) ?_
  rotate_left
  · go_simp
    try with_reducible rfl
  try simp only [Act.put, List.getElem_toArray, List.getElem_cons_zero, List.getElem_cons_succ, List.setIfInBounds_toArray, List.set_cons_zero, List.set_cons_succ]
  refine tkH (i := 9) (v := ?_) (fun V hV => ?_) ?_
  rotate_left
  · go_simp
    try with_reducible rfl
  try simp only [Act.put, List.getElem_toArray, List.getElem_cons_zero, List.getElem_cons_succ, List.setIfInBounds_toArray, List.set_cons_zero, List.set_cons_succ]
  refine tkH (i := 10) (v := ?_) (fun V hV => ?_) ?_
  rotate_left
  · have c0 := (H5.out.below hV).kept.1; go_simp
    try with_reducible rfl
  try simp only [Act.put, List.getElem_toArray, List.getElem_cons_zero, List.getElem_cons_succ, List.setIfInBounds_toArray, List.set_cons_zero, List.set_cons_succ]
  refine tkH (i := 11) (v := ?_) (fun V hV => ?_) ?_
  rotate_left
  · go_simp
    try with_reducible rfl
  try simp only [Act.put, List.getElem_toArray, List.getElem_cons_zero, List.getElem_cons_succ, List.setIfInBounds_toArray, List.set_cons_zero, List.set_cons_succ]
  refine tkH (i := 12) (v := ?_) (fun V hV => ?_) ?_
  rotate_left
  · go_simp
    try with_reducible rfl
  try simp only [Act.put, List.getElem_toArray, List.getElem_cons_zero, List.getElem_cons_succ, List.setIfInBounds_toArray, List.set_cons_zero, List.set_cons_succ]
  refine tkH (i := 13) (v := ?_) (fun V hV => ?_) ?_
  rotate_left
  · go_simp
    try with_reducible rfl
  try simp only [Act.put, List.getElem_toArray, List.getElem_cons_zero, List.getElem_cons_succ, List.setIfInBounds_toArray, List.set_cons_zero, List.set_cons_succ]
  refine tkH (i := 14) (v := ?_) (fun V hV => ?_) ?_
  rotate_left
  · have c0 := ((H3.out.below hV).sta hi5).1; go_simp
    try with_reducible rfl
  try simp only [Act.put, List.getElem_toArray, List.getElem_cons_zero, List.getElem_cons_succ, List.setIfInBounds_toArray, List.set_cons_zero, List.set_cons_succ]
  refine wpAnyH_ready (rs := [15]) (by kernel_rfl) (by simp) ?_
  refine AllReadyH.cons (o := _) rfl (fun K hK => ?_) AllReadyH.nil
  go_simp
  (with_reducible refine (takes_any t (kp) (pd i) _ HV.out (by omega) (by omega) (by omega) (by omega)).mono ?_)
  rintro e v15 ⟨rfl, hb⟩
  refine hK.out _ _ (hS.trans (hb.mono hS.size)) (fun hS => ?_)
  clear hK K
  try simp only [List.setIfInBounds_toArray, List.set_cons_zero, List.set_cons_succ]
  refine tkH (i := 16) (v := ?_) (fun V hV => ?_) ?_
  rotate_left
  · go_simp
    try with_reducible rfl
  try simp only [Act.put, List.getElem_toArray, List.getElem_cons_zero, List.getElem_cons_succ, List.setIfInBounds_toArray, List.set_cons_zero, List.set_cons_succ]
  refine wpAnyH_done (by kernel_rfl) ?_ _
  have HBS := hid hS
  have H51 := hid (H5.out.below hS); have H71 := hid (H7.out.below hS)
  clear hS
  obtain ⟨z, hzz⟩ : ∃ z, (takesT t kp (pd i)) = z := ⟨_, rfl⟩
  have HZ := hid hzz
  rw [hzz] at hz ⊢
  clear hzz
  skip
  have ⟨c1, f1⟩ := H51.out.kept
  obtain ⟨V1, hV1⟩ : ∃ V, v15.setCell ⟨b5, 5, none⟩ (.int .i64 (kp - z)) = V := ⟨_, rfl⟩
  have H52 : Hid (BoxIs b5 (resC f (kp - z)) V1) := by show BoxIs _ _ _; rw [← hV1]; exact H51.out.setKept _
  have hn1 : Near (fun k => k = b5) v15 V1 := by rw [← hV1]; exact near_one (S := fun k => k = b5) rfl _
  have H72 := hid (H71.out.far hn1 (by omega))
  have HN1 := hid (hn1.mono (T := fun k => k = b5 ∨ k = b7) (fun k _ h => by exact .inl h))
  clear hn1
  go_upto_region 2 with fail
  clear c1 f1 hV1
  have ⟨c1, f1⟩ := H72.out.amo hi5
  obtain ⟨V2, hV2⟩ : ∃ V, V1.setCell ⟨b7, i, none⟩ (.int .i64 z) = V := ⟨_, rfl⟩
  have H73 : Hid (BoxIs b7 (amoC (updI rs i z)) V2) := by show BoxIs _ _ _; rw [← hV2]; exact H72.out.setAmo hi5 _
  have hn2 : Near (fun k => k = b7) V1 V2 := by rw [← hV2]; exact near_one (S := fun k => k = b7) rfl _
  have H53 := hid (H52.out.far hn2 (by omega))
  have HN2 := hid (HN1.out.trans (hn2.mono (fun k _ h => .inr h)))
  clear hn2
  go_upto_region 3 with fail
  clear c1 f1 hV2
  have ⟨c1, f1⟩ := H53.out.res hi5
  obtain ⟨V3, hV3⟩ : ∃ V, V2.setCell ⟨b5, i, none⟩ (.int .i64 (f i + z)) = V := ⟨_, rfl⟩
  have H54 : Hid (BoxIs b5 (resC (updI f i (f i + z)) (kp - z)) V3) := by show BoxIs _ _ _; rw [← hV3]; exact H53.out.setRes hi5 _
  have hn3 : Near (fun k => k = b5) V2 V3 := by rw [← hV3]; exact near_one (S := fun k => k = b5) rfl _
  have H74 := hid (H73.out.far hn3 (by omega))
  have HN3 := hid (HN2.out.trans (hn3.mono (fun k _ h => .inl h)))
  clear hn3
  go_wp2_with fail
  clear c1 f1 hV3
  first | refine bodyPost_end (results_none rfl _ _ _) rfl ?_ | refine bodyPost_ret (results_none rfl _ _ _) rfl ?_
  exact ⟨⟨_, rfl⟩, by rw [HZ.out]; exact H74.out, by rw [HZ.out]; exact H54.out, (near_below HBS.out).trans HN3.out⟩

set_option maxRecDepth 40000 in
set_option maxHeartbeats 4000000 in
theorem take2_any (p : Prg) (lp : Option Addr) (ln lc : Nat) (tp : Option Addr) (tn tc : Nat) (rp : Option Addr) (rn rc : Nat) (th : Nat → Bool) (bm bw b2 b3 b5 b7 i o : Nat) (t : Tre) (loss kp : Int) (pd f rs : Nat → Int) (w0 w : World) (hb0 : Below w0.heap.size w0 w) (hp : RowsAt cellsT 7 w0 tp tn p.ts) (hwk : BoxIs bw (workC p lp ln lc tp tn tc rp rn rc th bm) w0)
    (h2 : BoxIs b2 #[.pointer (some ⟨bw, 0, none⟩)] w) (h3 : BoxIs b3 (staC loss pd) w) (h5 : BoxIs b5 (resC f kp) w) (h7 : BoxIs b7 (amoC rs) w) (hlt : b3 < b5 ∧ b5 < b7) (ht : p.ts[i]? = some t) (htn : tn ≤ 5) (hv : treV t = true)
    (hk : 0 ≤ rs o ∧ rs o ≤ 100000) (hpd : 0 ≤ pd i ∧ pd i ≤ 100000) (hf : 0 ≤ f i ∧ f i ≤ 100000) (hz : 0 ≤ (takesT t (rs o) (pd i)) ∧ (takesT t (rs o) (pd i)) ≤ 100000) (ho5 : o < 5) (_hoi : o ≠ i) :
    Calls Try.prog 125 #[.int .i64 (i : Int), .pointer (some ⟨b7, o, none⟩), .pointer (some ⟨b2, 0, none⟩), .pointer (some ⟨b3, 0, none⟩), .pointer (some ⟨b7, 0, none⟩), .pointer (some ⟨b5, 0, none⟩)] w fun e w' => (∃ v, e = .returned v) ∧ BoxIs b7 (amoC (updI (updI rs o (rs o - (takesT t (rs o) (pd i)))) i (takesT t (rs o) (pd i)))) w' ∧ BoxIs b5 (resC (updI f i (f i + (takesT t (rs o) (pd i)))) kp) w' ∧ Near (fun k => k = b5 ∨ k = b7) w w' := by
  have H2 := hid h2; have H3 := hid h3; have H5 := hid h5; have H7 := hid h7; have HP := hid hp; have HW := hid hwk; have HT := hid ht; have HB0 := hid hb0; have HV := hid hv
  have hit : i < tn := by rw [hp.1]; exact (List.getElem?_eq_some_iff.1 ht).1
  have hi5 : i < 5 := by omega
  have hi6 : (i : Int) < 5 := by omega
  obtain ⟨t0, ht0, b1, o1, rfl, hb1, _⟩ := hp.tre hit
  clear h2 h3 h5 h7 hp hwk ht hb0 hv ht0
  go_enter Try.func125, Try.ntmps125
  go_upto_region 0 with fail
  refine wp_region_held_drew (S := fun V => Below w.heap.size w V) (by kernel_rfl) ((Below.refl _ _).drew) (fun hS => ?_)
  simp only [List.size_toArray, List.length_cons, List.length_nil, Nat.reduceAdd, Array.replicate_succ, Array.replicate_zero, List.push_toArray, List.nil_append, List.cons_append]
  refine tkH (i := 0) (v := ?_) (fun V hV => ?_) ?_
  rotate_left
  · have c0 := ((H2.out.below hV).2 0 (.pointer (some ⟨bw, 0, none⟩)) rfl).1; go_simp
    try with_reducible rfl
  try simp only [Act.put, List.getElem_toArray, List.getElem_cons_zero, List.setIfInBounds_toArray, List.set_cons_zero, List.set_cons_succ]
  refine tkH (i := 1) (v := ?_) (fun V hV => ?_) ?_
  rotate_left
  · go_simp
    try with_reducible rfl
  try simp only [Act.put, List.getElem_toArray, List.getElem_cons_zero, List.getElem_cons_succ, List.setIfInBounds_toArray, List.set_cons_zero, List.set_cons_succ]
  refine tkH (i := 2) (v := ?_) (fun V hV => ?_) ?_
  rotate_left
  · go_simp
    try with_reducible rfl
  try simp only [Act.put, List.getElem_toArray, List.getElem_cons_zero, List.getElem_cons_succ, List.setIfInBounds_toArray, List.set_cons_zero, List.set_cons_succ]
  refine tkH (i := 3) (v := ?_) (fun V hV => ?_) ?_
  rotate_left
  · go_simp
    try with_reducible rfl
  try simp only [Act.put, List.getElem_toArray, List.getElem_cons_zero, List.getElem_cons_succ, List.setIfInBounds_toArray, List.set_cons_zero, List.set_cons_succ]
  refine tkH (i := 4) (v := ?_) (fun V hV => ?_) ?_
  rotate_left
  · have c0 := ((HW.out.below (HB0.out.trans (hV.mono HB0.out.size))).2 2 (.slice (some ⟨b1, o1, none⟩) tn tc) rfl).1; go_simp
    try with_reducible rfl
  try simp only [Act.put, List.getElem_toArray, List.getElem_cons_zero, List.getElem_cons_succ, List.setIfInBounds_toArray, List.set_cons_zero, List.set_cons_succ]
  refine tkH (i := 5) (v := ?_) (fun V hV => ?_) ?_
  rotate_left
  · go_simp
    try with_reducible rfl
  try simp only [Act.put, List.getElem_toArray, List.getElem_cons_zero, List.getElem_cons_succ, List.setIfInBounds_toArray, List.set_cons_zero, List.set_cons_succ]
  refine tkH (i := 6) (v := ?_) (fun V hV => ?_) ?_
  rotate_left
  · go_simp
    try with_reducible rfl
  try simp only [Act.put, List.getElem_toArray, List.getElem_cons_zero, List.getElem_cons_succ, List.setIfInBounds_toArray, List.set_cons_zero, List.set_cons_succ]
  refine tkH (i := 7) (v := ?_) (fun V hV => ?_) ?_
  rotate_left
  · have ⟨c0, c1, c2, c3, c4, c5, c6⟩ := tre_again (HP.out.below (HB0.out.trans (hV.mono HB0.out.size))) HT.out; go_simp
    try with_reducible rfl
  try simp only [Act.put, List.getElem_toArray, List.getElem_cons_zero, List.getElem_cons_succ, List.setIfInBounds_toArray, List.set_cons_zero, List.set_cons_succ]
  refine tkH (i := 8) (v := ?_) (fun V hV => ?_) ?_
  rotate_left
  · go_simp
    try with_reducible rfl
  try simp only [Act.put, List.getElem_toArray, List.getElem_cons_zero, List.getElem_cons_succ, List.setIfInBounds_toArray, List.set_cons_zero, List.set_cons_succ]
  refine tkH (i := 9) (v := ?_) (fun V hV => ?_) ?_
  rotate_left
  · go_simp
    try with_reducible rfl
  try simp only [Act.put, List.getElem_toArray, List.getElem_cons_zero, List.getElem_cons_succ, List.setIfInBounds_toArray, List.set_cons_zero, List.set_cons_succ]
  refine tkH (i := 10) (v := ?_) (fun V hV => ?_) ?_
  rotate_left
  · have c0 := ((H7.out.below hV).amo ho5).1; go_simp
    try with_reducible rfl
  try simp only [Act.put, List.getElem_toArray, List.getElem_cons_zero, List.getElem_cons_succ, List.setIfInBounds_toArray, List.set_cons_zero, List.set_cons_succ]
  refine tkH (i := 11) (v := ?_) (fun V hV => ?_) ?_
  rotate_left
  · go_simp
    try with_reducible rfl
  try simp only [Act.put, List.getElem_toArray, List.getElem_cons_zero, List.getElem_cons_succ, List.setIfInBounds_toArray, List.set_cons_zero, List.set_cons_succ]
  refine tkH (i := 12) (v := ?_) (fun V hV => ?_) ?_
  rotate_left
  · go_simp
    try with_reducible rfl
  try simp only [Act.put, List.getElem_toArray, List.getElem_cons_zero, List.getElem_cons_succ, List.setIfInBounds_toArray, List.set_cons_zero, List.set_cons_succ]
  refine tkH (i := 13) (v := ?_) (fun V hV => ?_) ?_
  rotate_left
  · go_simp
    try with_reducible rfl
  try simp only [Act.put, List.getElem_toArray, List.getElem_cons_zero, List.getElem_cons_succ, List.setIfInBounds_toArray, List.set_cons_zero, List.set_cons_succ]
  refine tkH (i := 14) (v := ?_) (fun V hV => ?_) ?_
  rotate_left
  · have c0 := ((H3.out.below hV).sta hi5).1; go_simp
    try with_reducible rfl
  try simp only [Act.put, List.getElem_toArray, List.getElem_cons_zero, List.getElem_cons_succ, List.setIfInBounds_toArray, List.set_cons_zero, List.set_cons_succ]
  refine wpAnyH_ready (rs := [15]) (by kernel_rfl) (by simp) ?_
  refine AllReadyH.cons (o := _) rfl (fun K hK => ?_) AllReadyH.nil
  go_simp
  (with_reducible refine (takes_any t (rs o) (pd i) _ HV.out (by omega) (by omega) (by omega) (by omega)).mono ?_)
  rintro e v15 ⟨rfl, hb⟩
  refine hK.out _ _ (hS.trans (hb.mono hS.size)) (fun hS => ?_)
  clear hK K
  try simp only [List.setIfInBounds_toArray, List.set_cons_zero, List.set_cons_succ]
  refine tkH (i := 16) (v := ?_) (fun V hV => ?_) ?_
  rotate_left
  · go_simp
    try with_reducible rfl
  try simp only [Act.put, List.getElem_toArray, List.getElem_cons_zero, List.getElem_cons_succ, List.setIfInBounds_toArray, List.set_cons_zero, List.set_cons_succ]
  refine wpAnyH_done (by kernel_rfl) ?_ _
  have HBS := hid hS
  have H51 := hid (H5.out.below hS); have H71 := hid (H7.out.below hS)
  clear hS
  obtain ⟨z, hzz⟩ : ∃ z, (takesT t (rs o) (pd i)) = z := ⟨_, rfl⟩
  have HZ := hid hzz
  rw [hzz] at hz ⊢
  clear hzz
  skip
  have ⟨c1, f1⟩ := H71.out.amo ho5
  obtain ⟨V1, hV1⟩ : ∃ V, v15.setCell ⟨b7, o, none⟩ (.int .i64 (rs o - z)) = V := ⟨_, rfl⟩
  have H72 : Hid (BoxIs b7 (amoC (updI rs o (rs o - z))) V1) := by show BoxIs _ _ _; rw [← hV1]; exact H71.out.setAmo ho5 _
  have hn1 : Near (fun k => k = b7) v15 V1 := by rw [← hV1]; exact near_one (S := fun k => k = b7) rfl _
  have H52 := hid (H51.out.far hn1 (by omega))
  have HN1 := hid (hn1.mono (T := fun k => k = b5 ∨ k = b7) (fun k _ h => by exact .inr h))
  clear hn1
  go_upto_region 2 with fail
  clear c1 f1 hV1
  have ⟨c1, f1⟩ := H72.out.amo hi5
  obtain ⟨V2, hV2⟩ : ∃ V, V1.setCell ⟨b7, i, none⟩ (.int .i64 z) = V := ⟨_, rfl⟩
  have H73 : Hid (BoxIs b7 (amoC (updI (updI rs o (rs o - z)) i z)) V2) := by show BoxIs _ _ _; rw [← hV2]; exact H72.out.setAmo hi5 _
  have hn2 : Near (fun k => k = b7) V1 V2 := by rw [← hV2]; exact near_one (S := fun k => k = b7) rfl _
  have H53 := hid (H52.out.far hn2 (by omega))
  have HN2 := hid (HN1.out.trans (hn2.mono (fun k _ h => .inr h)))
  clear hn2
  go_upto_region 3 with fail
  clear c1 f1 hV2
  have ⟨c1, f1⟩ := H53.out.res hi5
  obtain ⟨V3, hV3⟩ : ∃ V, V2.setCell ⟨b5, i, none⟩ (.int .i64 (f i + z)) = V := ⟨_, rfl⟩
  have H54 : Hid (BoxIs b5 (resC (updI f i (f i + z)) kp) V3) := by show BoxIs _ _ _; rw [← hV3]; exact H53.out.setRes hi5 _
  have hn3 : Near (fun k => k = b5) V2 V3 := by rw [← hV3]; exact near_one (S := fun k => k = b5) rfl _
  have H74 := hid (H73.out.far hn3 (by omega))
  have HN3 := hid (HN2.out.trans (hn3.mono (fun k _ h => .inl h)))
  clear hn3
  go_wp2_with fail
  clear c1 f1 hV3
  first | refine bodyPost_end (results_none rfl _ _ _) rfl ?_ | refine bodyPost_ret (results_none rfl _ _ _) rfl ?_
  exact ⟨⟨_, rfl⟩, by rw [HZ.out]; exact H74.out, by rw [HZ.out]; exact H54.out, (near_below HBS.out).trans HN3.out⟩
end Go.Proofs.Ytaioobhblfnlaaa
