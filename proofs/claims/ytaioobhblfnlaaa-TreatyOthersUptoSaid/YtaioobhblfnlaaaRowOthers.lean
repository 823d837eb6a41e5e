/- TreatyOthers: what treaties that protect other treaties are does not change what the society keeps: as stated, for programmes whose lists are not longer than the bulk of the '..UptoSaid'. -/
import Derived.Test.YtaioobhblfnlaaaOpn
import Derived.Test.YtaioobhblfnlaaaLOth
import Derived.JoinedCond
import Derived.OpenShut
namespace Go.Proofs.Ytaioobhblfnlaaa
open Go.ChangeShapes Go.WideShapes Go.ChangeAt Go.RowKit

section
variable {H : Type} {enc : TypeId × Value → H} {w : World} {base : Nat} {spare : Nat → Bool} {held : Bool}

theorem bulk_length : ∀ (l : List (DataW H)), l.length ≤ Rows.uptoBulkAll l
  | [] => by simp
  | d :: r => by
    have ih := bulk_length r
    have h1 : 1 ≤ Rows.uptoBulk d := by
      cases d with
      | lit l => cases l <;> simp [Rows.uptoBulk]
      | nil => simp [Rows.uptoBulk]
      | ptr d => simp [Rows.uptoBulk]
      | slice elems spare => simp [Rows.uptoBulk]
      | agg parts => simp [Rows.uptoBulk]
      | iface t d => simp [Rows.uptoBulk]
      | map entries => simp [Rows.uptoBulk]
      | held h => simp [Rows.uptoBulk]
    simp only [Rows.uptoBulkAll, List.length_cons]
    omega

theorem bulk_part {d : DataW H} : ∀ {l : List (DataW H)}, d ∈ l → Rows.uptoBulk d ≤ Rows.uptoBulkAll l
  | e :: r, h => by
    simp only [Rows.uptoBulkAll]
    rcases List.mem_cons.1 h with rfl | h
    · omega
    · have := bulk_part h
      omega

set_option maxRecDepth 100000 in
/-- A list of a programme is no longer than the bulk. -/
theorem prg_bulk {p : Prg} {lp : Option Addr} {ln lc : Nat} {tp : Option Addr} {tn tc : Nat} {rp : Option Addr} {rn rc : Nat} {d : DataW H} {ps : List MemPlace} (h : DataW.Trod enc Try.prog w base spare held 26 (.agg #[.slice lp ln lc, .int .i64 p.reserve, .slice tp tn tc, .slice rp rn rc]) d ps) : tn ≤ Rows.uptoBulk d := by
  obtain ⟨fuel, hf0⟩ := h
  simp only [Value.cells] at hf0
  obtain ⟨xs, k, rfl, hx, hlen, hxl, hf⟩ := DataW.trod_struct Try.underlying26 hf0
  have h2 : DataW.trod enc Try.prog w base spare held k 23 (([Value.slice lp ln lc, .int .i64 p.reserve, .slice tp tn tc, .slice rp rn rc].drop 2).take (Try.prog.cellsOf 23)) = xs[2]? := hf 2 _ rfl
  rw [Try.cl23] at h2
  replace h2 : DataW.trod enc Try.prog w base spare held k 23 [.slice tp tn tc] = xs[2]? := h2
  obtain ⟨y, hy⟩ := Option.isSome_iff_exists.1 (get_some (i := 2) hxl (by decide))
  rw [hy] at h2
  have hmem : y.1 ∈ xs.map (·.1) := List.mem_map.2 ⟨y, List.mem_of_getElem? hy, rfl⟩
  have hd : d = .agg (xs.map (·.1)) := by
    have := congrArg (fun z => z.1) hx
    exact this
  rw [hd]
  have h3 := bulk_part hmem
  simp only [Rows.uptoBulk]
  rcases DataW.trod_slice Try.underlying23 h2 with ⟨hcs, _⟩ | ⟨a, len, cap, elems, rest, n', _, hcs, hy1, _, _, _, hel, _, _⟩
  · cases hcs; omega
  · cases hcs
    have h4 : Rows.uptoBulk y.1 = Rows.uptoBulkAll (elems.map (·.1)) + Rows.uptoBulkAll (rest.map (·.1)) + 1 := by rw [hy1]; rfl
    have h5 := bulk_length (elems.map (·.1))
    rw [List.length_map, hel] at h5
    omega
end

set_option maxRecDepth 100000 in
set_option maxHeartbeats 1000000 in
theorem treatyOthers_contract (H : Type) (enc : TypeId × Value → H) (W : World) (base : Nat) (args : Array Value) (ds gs : List (DataW H)) (before : List MemPlace)
    (hval0 : ∀ (j : Nat) t v, Try.f17.params[j]? = some t → args[j]? = some v → Value.okWide Try.prog W .any base t v)
    (hW : DataW.Whole enc Try.prog Try.f17.params.toList Rows.treatyOthersSpec.vars false W args.toList ds gs before) (hk : Rows.uptoSmall H (ds ++ gs) = true) :
    Calls Try.prog 17 args W fun e W' => ∃ v, e = .returned v ∧ Rows.treatyOthersSpec.post enc Try.prog Try.f17 false true false false W args v W' := by
  have hval : ∀ (j : Nat) t v, Try.f17.params[j]? = some t → args[j]? = some v → Value.okWide Try.prog W .any base t v := hval0
  have hW' := hW
  obtain ⟨p, q, hA0, hV, rfl, hfz, hnd⟩ := hW
  have hA : DataW.TrodAll enc Try.prog W 0 (fun _ => true) true Try.f17.params.toList args.toList ds p := hA0
  rw [Try.params17] at hA hval
  obtain ⟨v0, v1, v2, v3, d0, d1, d2, d3, p0, p1, p2, p3, rfl, rfl, rfl, h0, h1, h2, h3⟩ := trodAll_four hA
  obtain ⟨rfl, rfl⟩ := trodVars_none hV
  obtain ⟨cs, rfl, hsz⟩ := okWide_struct Try.underlying26 (hval 0 26 v0 rfl rfl)
  obtain ⟨pr, lp, ln, lc, tp, tn, tc, rp, rn, rc, hv, hL⟩ := read_prg h0
  cases hv
  obtain ⟨x1, hx1, _, _, hwf1⟩ := open_int Try.underlying90 (hval 1 90 v1 rfl rfl) h1
  cases hx1
  have hb1 : 0 ≤ x1 ∧ x1 ≤ 65535 := by simpa [Lit.wf, IntKind.min, IntKind.max, IntKind.signed, IntKind.bits] using hwf1
  obtain ⟨x2, hx2, _, _, hwf2⟩ := open_int Try.underlying5 (hval 2 5 v2 rfl rfl) h2
  cases hx2
  have hb2 : 0 ≤ x2 ∧ x2 ≤ 255 := by simpa [Lit.wf, IntKind.min, IntKind.max, IntKind.signed, IntKind.bits] using hwf2
  obtain ⟨x3, hx3, _, _, hwf3⟩ := open_int Try.underlying5 (hval 3 5 v3 rfl rfl) h3
  cases hx3
  have hb3 : 0 ≤ x3 ∧ x3 ≤ 255 := by simpa [Lit.wf, IntKind.min, IntKind.max, IntKind.signed, IntKind.bits] using hwf3
  have hm9 : tn ≤ 1100000 := by
    have h9 : Rows.uptoBulkAll ([d0, d1, d2, d3] ++ []) ≤ 1048576 := of_decide_eq_true hk
    have h8 := prg_bulk h0
    have h7 := bulk_part (d := d0) (l := [d0, d1, d2, d3] ++ []) (by simp)
    omega
  clear hA0 hval0
  refine (treatyOthers_any pr lp ln lc tp tn tc rp rn rc x1 x2 x3 W hL hb1 hb2 hb3 hm9).mono fun e W' ⟨he, hb⟩ => ?_
  subst he
  have hlt := hW'.lt
  exact ⟨_, rfl, _, _, _, [], _, [], hW', trodAll_mk1 (shut_bool Try.underlying4 true), trodAll_mk4 (Below.trod Try.laidOut (by kernel_rfl) (of_decide_eq_true (by kernel_rfl)) h0 hb (fun x hx => hlt x (by simp [hx]))) (Below.trod Try.laidOut (by kernel_rfl) (of_decide_eq_true (by kernel_rfl)) h1 hb (fun x hx => hlt x (by simp [hx]))) (Below.trod Try.laidOut (by kernel_rfl) (of_decide_eq_true (by kernel_rfl)) h2 hb (fun x hx => hlt x (by simp [hx]))) (Below.trod Try.laidOut (by kernel_rfl) (of_decide_eq_true (by kernel_rfl)) h3 hb (fun x hx => hlt x (by simp [hx]))), rfl, hb.frame _, fun h => by cases h⟩

set_option maxRecDepth 100000 in
set_option maxHeartbeats 1000000 in
theorem treatyOthers_lifted (os : Os) (started : os.Started) (H : Type) (enc : TypeId × Value → H) (F : Stop.Interp) :
    ReturnsInHanded {} Try.checked os 17 .any ((Rows.OpenSpec.upto Rows.treatyOthersSpec).pre6 enc Try.prog Try.f17 Rows.treatyOthersUptoRow.domain false) (((Rows.OpenSpec.upto Rows.treatyOthersSpec).at F).post enc Try.prog Try.f17 false true false false) := by
  refine returnsInHanded_of_cond (C := Try.checked) (s := Rows.OpenSpec.upto Rows.treatyOthersSpec) (k := Rows.uptoSmall) rfl Try.own started (by kernel_rfl) Try.func17
    (OpenSpec.witness (enc := enc) (C := Try.checked) (s := Rows.OpenSpec.upto Rows.treatyOthersSpec) (k := Rows.uptoSmall) rfl false ⟨#[], #[.agg #[.slice none 0 0, .int .i64 0, .slice none 0 0, .slice none 0 0], .int .u16 0, .int .u8 0, .int .u8 0], []⟩ 8 (by kernel_rfl) (by kernel_rfl) (by kernel_rfl)
      (x := ([.agg [.nil, .lit (.int .i64 0), .nil, .nil], .lit (.int .u16 0), .lit (.int .u8 0), .lit (.int .u8 0)], [], [])) (by kernel_rfl) rfl (by kernel_rfl)) ?_
  intro W base args ds gs before hval hW _ hk _
  exact treatyOthers_contract H enc W base args ds gs before hval hW hk

theorem treatyOthers_holds : Rows.TreatyOthersUptoSaid :=
  OpenClaim.holds_of_cond 17 Try.f17 rfl rfl rfl rfl rfl rfl rfl ⟨rfl, rfl, rfl, rfl, rfl⟩ rfl rfl rfl rfl rfl (by kernel_rfl) Try.func17 (by kernel_rfl)
    (of_decide_eq_true (by kernel_rfl)) (by unfold Func.isWrapper; first | (rw [if_pos (by decide +kernel)]; kernel_rfl) | (rw [if_neg (by decide +kernel)]; exact ⟨rfl, rfl⟩))
    (fun os started H enc _ F => treatyOthers_lifted os started H enc F)

end Go.Proofs.Ytaioobhblfnlaaa
