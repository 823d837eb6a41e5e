/- FrameLate returns true for every survey and count of it: a late count changes no bounds; if it is no longer late, they are not wider. No conditions. -/
import Derived.Test.YtlicijnaacdceaaOpnA
import Derived.Test.YtlicijnaacdceaaLawLat
namespace Go.Proofs.Ytlicijnaacdceaa
open Go.ChangeShapes Go.WideShapes Go.ChangeAt Go.RowKit

section
variable {H : Type} {enc : TypeId × Value → H} {w : World} {base : Nat} {spare : Nat → Bool} {held : Bool}
set_option maxRecDepth 100000 in
/-- The counts of a survey are no more than there is room for. -/
theorem surv_cap {r cc : Int} {p : Option Addr} {n c : Nat} {sm : Int} {q : Option Addr} {m e : Nat} {d : DataW H} {ps : List MemPlace} (h : DataW.Trod enc Try.prog w base spare held 27 (.agg #[.int .i64 r, .int .i64 cc, .slice p n c, .int .i64 sm, .slice q m e]) d ps) : m ≤ e := by
  obtain ⟨fuel, hf0⟩ := h
  simp only [Value.cells] at hf0
  obtain ⟨xs, k, rfl, hx, hlen, hxl, hf⟩ := DataW.trod_struct Try.underlying27 hf0
  have h2 : DataW.trod enc Try.prog w base spare held k 25 (([Value.int .i64 r, .int .i64 cc, .slice p n c, .int .i64 sm, .slice q m e].drop 4).take (Try.prog.cellsOf 25)) = xs[2]? := hf 2 _ rfl
  rw [Try.cl25] at h2
  replace h2 : DataW.trod enc Try.prog w base spare held k 25 [.slice q m e] = xs[2]? := h2
  obtain ⟨y, hy⟩ := Option.isSome_iff_exists.1 (get_some (i := 2) hxl (by decide))
  rw [hy] at h2
  rcases DataW.trod_slice Try.underlying25 h2 with ⟨hcs, _⟩ | ⟨a, len, cap, elems, rest, n', _, hcs, _, _, hl, _⟩
  · cases hcs; omega
  · cases hcs; exact hl
end

set_option maxRecDepth 100000 in
set_option maxHeartbeats 1000000 in
theorem frameLate_lifted (os : Os) (started : os.Started) (H : Type) (enc : TypeId × Value → H) :
    ReturnsInHanded {} Try.checked os 9 .any (Rows.frameLateSpec.pre6 enc Try.prog Try.f9 Rows.frameLateRow.domain false) (Rows.frameLateSpec.post enc Try.prog Try.f9 false true false false) := by
  refine returnsInHanded_of_change (C := Try.checked) Try.own started (by kernel_rfl) Try.func9
    (ChangeSpec.witness6 (enc := enc) (C := Try.checked) false ⟨#[], #[.agg #[.int .i64 0, .int .i64 0, .slice none 0 0, .int .i64 0, .slice none 0 0], .int .u8 0], []⟩ 8 (by kernel_rfl) (by kernel_rfl) (by kernel_rfl) (by kernel_rfl)) ?_
  intro W base args ds gs before hval0 hW hcnd _
  have hval : ∀ (j : Nat) t v, Try.f9.params[j]? = some t → args[j]? = some v → Value.okWide Try.prog W .any base t v := hval0
  have hW' := hW
  obtain ⟨p, q, hA0, hV, rfl, hfz, hnd⟩ := hW
  have hA : DataW.TrodAll enc Try.prog W 0 (fun _ => true) true Try.f9.params.toList args.toList ds p := hA0
  rw [Try.params9] at hA hval
  obtain ⟨v0, v1, d0, d1, p0, p1, rfl, rfl, rfl, h0, h1⟩ := trodAll_two hA
  obtain ⟨rfl, rfl⟩ := trodVars_none hV
  obtain ⟨cs, rfl, hsz⟩ := okWide_struct Try.underlying27 (hval 0 27 v0 rfl rfl)
  rw [Try.cl27] at hsz
  obtain ⟨r, cc, p0', n, c, l, sm, q0, m, e0, L, hv, hl, hL⟩ := read_surv hsz h0
  cases hv
  have hcap := surv_cap h0
  obtain ⟨x1, hx1, _, _, hwf1⟩ := open_int Try.underlying5 (hval 1 5 v1 rfl rfl) h1
  cases hx1
  have hb1 : 0 ≤ x1 ∧ x1 ≤ 255 := by simpa [Lit.wf, IntKind.min, IntKind.max, IntKind.signed, IntKind.bits] using hwf1
  clear hA0 hval0
  refine (frameLate_any r cc p0' n c l sm q0 m e0 L x1 W hl hL hb1 hcap).mono fun e W' ⟨he, hb⟩ => ?_
  subst he
  have hlt := hW'.lt
  exact ⟨_, rfl, _, _, _, [], _, [], hW', trodAll_mk1 (shut_bool Try.underlying4 true), trodAll_mk2 (Below.trod Try.laidOut (by kernel_rfl) (of_decide_eq_true (by kernel_rfl)) h0 hb (fun x hx => hlt x (by simp [hx]))) (Below.trod Try.laidOut (by kernel_rfl) (of_decide_eq_true (by kernel_rfl)) h1 hb (fun x hx => hlt x (by simp [hx]))), rfl, hb.frame _, fun h => by cases h⟩

theorem frameLate_holds : Rows.FrameLateSaid :=
  OpenClaim.holds_of_wide 9 Try.f9 rfl rfl rfl rfl rfl rfl rfl ⟨rfl, rfl, rfl, rfl, rfl⟩ rfl rfl rfl rfl rfl (by kernel_rfl) Try.func9 (by kernel_rfl)
    (of_decide_eq_true (by kernel_rfl)) (by unfold Func.isWrapper; first | (rw [if_pos (by decide +kernel)]; kernel_rfl) | (rw [if_neg (by decide +kernel)]; exact ⟨rfl, rfl⟩))
    (fun os started H enc _ => frameLate_lifted os started H enc)

end Go.Proofs.Ytlicijnaacdceaa
