/- FrameLots returns true for every field, lot and list of counts: whether the field is valid, the places of the lot and the counts that are foreign to it are as the document says, or the error is. No conditions. -/
import Derived.Test.YtlicijnaacdceaaOpnB
import Derived.Test.YtlicijnaacdceaaLawLot
namespace Go.Proofs.Ytlicijnaacdceaa
open Go.ChangeShapes Go.WideShapes Go.ChangeAt Go.RowKit

set_option maxRecDepth 100000 in
set_option maxHeartbeats 1000000 in
theorem frameLots_lifted (os : Os) (started : os.Started) (H : Type) (enc : TypeId × Value → H) :
    ReturnsInHanded {} Try.checked os 16 .any (Rows.frameLotsSpec.pre6 enc Try.prog Try.f16 Rows.frameLotsRow.domain false) (Rows.frameLotsSpec.post enc Try.prog Try.f16 false true false false) := by
  refine returnsInHanded_of_change (C := Try.checked) Try.own started (by kernel_rfl) Try.func16
    (ChangeSpec.witness6 (enc := enc) (C := Try.checked) false ⟨#[], #[.agg #[.int .i64 0, .int .i64 0, .slice none 0 0], .agg #[.int .i64 0, .int .i64 0, .int .i64 0], .slice none 0 0], []⟩ 8 (by kernel_rfl) (by kernel_rfl) (by kernel_rfl) (by kernel_rfl)) ?_
  intro W base args ds gs before hval0 hW hcnd _
  have hval : ∀ (j : Nat) t v, Try.f16.params[j]? = some t → args[j]? = some v → Value.okWide Try.prog W .any base t v := hval0
  have hW' := hW
  obtain ⟨p, q, hA0, hV, rfl, hfz, hnd⟩ := hW
  have hA : DataW.TrodAll enc Try.prog W 0 (fun _ => true) true Try.f16.params.toList args.toList ds p := hA0
  rw [Try.params16] at hA hval
  obtain ⟨v0, v1, v2, d0, d1, d2, p0, p1, p2, rfl, rfl, rfl, h0, h1, h2⟩ := trodAll_three hA
  obtain ⟨rfl, rfl⟩ := trodVars_none hV
  obtain ⟨ks0, hx0, hsz0⟩ := okWide_struct Try.underlying24 (hval 0 24 v0 rfl rfl)
  cases hx0
  rw [Try.cl24] at hsz0
  obtain ⟨r, cc, pf, nf, cf, lf, hy0, hlf0⟩ := read_fieldV hsz0 h0
  cases hy0
  obtain ⟨ks1, hx1, hsz1⟩ := okWide_struct Try.underlying84 (hval 1 84 v1 rfl rfl)
  cases hx1
  rw [Try.cl84] at hsz1
  obtain ⟨sd, stp, drs, hy1⟩ := read_lotV hsz1 h1
  cases hy1
  obtain ⟨ax2, nx2, cx2, hx2⟩ := okWide_slice Try.underlying25 (hval 2 25 v2 rfl rfl)
  cases hx2
  obtain ⟨y2, nn2, cn2, l2, hx2, hl2⟩ := (have ⟨_, hf⟩ := h2; read_cnts hf)
  cases hx2
  clear hA0 hval0
  refine (frameLots_any r cc pf nf cf lf sd stp drs ax2 nx2 cx2 l2 W  hlf0 hl2).mono fun e W' ⟨he, hb⟩ => ?_
  subst he
  have hlt := hW'.lt
  exact ⟨_, rfl, _, _, _, [], _, [], hW', trodAll_mk1 (shut_bool Try.underlying4 true), trodAll_mk3 (Below.trod Try.laidOut (by kernel_rfl) (of_decide_eq_true (by kernel_rfl)) h0 hb (fun x hx => hlt x (by simp [hx]))) (Below.trod Try.laidOut (by kernel_rfl) (of_decide_eq_true (by kernel_rfl)) h1 hb (fun x hx => hlt x (by simp [hx]))) (Below.trod Try.laidOut (by kernel_rfl) (of_decide_eq_true (by kernel_rfl)) h2 hb (fun x hx => hlt x (by simp [hx]))), rfl, hb.frame _, fun h => by cases h⟩

theorem frameLots_holds : Rows.FrameLotsSaid :=
  OpenClaim.holds_of_wide 16 Try.f16 rfl rfl rfl rfl rfl rfl rfl ⟨rfl, rfl, rfl, rfl, rfl⟩ rfl rfl rfl rfl rfl (by kernel_rfl) Try.func16 (by kernel_rfl)
    (of_decide_eq_true (by kernel_rfl)) (by unfold Func.isWrapper; first | (rw [if_pos (by decide +kernel)]; kernel_rfl) | (rw [if_neg (by decide +kernel)]; exact ⟨rfl, rfl⟩))
    (fun os started H enc _ => frameLots_lifted os started H enc)

end Go.Proofs.Ytlicijnaacdceaa
