/- FrameDraws returns true for every field and lot: the places that are drawn are different and in the field, fewer draws give the first of them, and the counts of a survey at drawn places, once each, have none that is foreign. No conditions. -/
import Derived.Test.YtlicijnaacdceaaOpnB
import Derived.Test.YtlicijnaacdceaaLawDrw
namespace Go.Proofs.Ytlicijnaacdceaa
open Go.ChangeShapes Go.WideShapes Go.ChangeAt Go.RowKit

set_option maxRecDepth 100000 in
set_option maxHeartbeats 1000000 in
theorem frameDraws_lifted (os : Os) (started : os.Started) (H : Type) (enc : TypeId × Value → H) :
    ReturnsInHanded {} Try.checked os 17 .any (Rows.frameDrawsSpec.pre6 enc Try.prog Try.f17 Rows.frameDrawsRow.domain false) (Rows.frameDrawsSpec.post enc Try.prog Try.f17 false true false false) := by
  refine returnsInHanded_of_change (C := Try.checked) Try.own started (by kernel_rfl) Try.func17
    (ChangeSpec.witness6 (enc := enc) (C := Try.checked) false ⟨#[], #[.agg #[.int .i64 0, .int .i64 0, .slice none 0 0], .agg #[.int .i64 0, .int .i64 0, .int .i64 0]], []⟩ 8 (by kernel_rfl) (by kernel_rfl) (by kernel_rfl) (by kernel_rfl)) ?_
  intro W base args ds gs before hval0 hW hcnd _
  have hval : ∀ (j : Nat) t v, Try.f17.params[j]? = some t → args[j]? = some v → Value.okWide Try.prog W .any base t v := hval0
  have hW' := hW
  obtain ⟨p, q, hA0, hV, rfl, hfz, hnd⟩ := hW
  have hA : DataW.TrodAll enc Try.prog W 0 (fun _ => true) true Try.f17.params.toList args.toList ds p := hA0
  rw [Try.params17] at hA hval
  obtain ⟨v0, v1, d0, d1, p0, p1, rfl, rfl, rfl, h0, h1⟩ := trodAll_two hA
  obtain ⟨rfl, rfl⟩ := trodVars_none hV
  obtain ⟨ks0, hx0, hsz0⟩ := okWide_struct Try.underlying24 (hval 0 24 v0 rfl rfl)
  cases hx0
  rw [Try.cl24] at hsz0
  obtain ⟨r, cc, pf, nf, cf, lf, hy0, hlf0⟩ := read_fieldV hsz0 h0
  cases hy0
  obtain ⟨ks1, hx1, hsz1⟩ := okWide_struct Try.underlying84 (hval 1 84 v1 rfl rfl)
  cases hx1
  rw [Try.cl84] at hsz1
  obtain ⟨sd, stp, drs, hy1⟩ := read_lotV hsz1 h1
  cases hy1
  clear hA0 hval0
  refine (frameDraws_any r cc pf nf cf lf sd stp drs W  hlf0).mono fun e W' ⟨he, hb⟩ => ?_
  subst he
  have hlt := hW'.lt
  exact ⟨_, rfl, _, _, _, [], _, [], hW', trodAll_mk1 (shut_bool Try.underlying4 true), trodAll_mk2 (Below.trod Try.laidOut (by kernel_rfl) (of_decide_eq_true (by kernel_rfl)) h0 hb (fun x hx => hlt x (by simp [hx]))) (Below.trod Try.laidOut (by kernel_rfl) (of_decide_eq_true (by kernel_rfl)) h1 hb (fun x hx => hlt x (by simp [hx]))), rfl, hb.frame _, fun h => by cases h⟩

theorem frameDraws_holds : Rows.FrameDrawsSaid :=
  OpenClaim.holds_of_wide 17 Try.f17 rfl rfl rfl rfl rfl rfl rfl ⟨rfl, rfl, rfl, rfl, rfl⟩ rfl rfl rfl rfl rfl (by kernel_rfl) Try.func17 (by kernel_rfl)
    (of_decide_eq_true (by kernel_rfl)) (by unfold Func.isWrapper; first | (rw [if_pos (by decide +kernel)]; kernel_rfl) | (rw [if_neg (by decide +kernel)]; exact ⟨rfl, rfl⟩))
    (fun os started H enc _ => frameDraws_lifted os started H enc)

end Go.Proofs.Ytlicijnaacdceaa
