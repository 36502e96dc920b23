/- The law of MergeEnums against its reference: for all two enumerations it answers true, and the arguments read as before. No condition. -/
import Derived.Test.YthjjfdbkggiaeaaOpnD
import Derived.Test.YthjjfdbkggiaeaaLMerge
set_option linter.unusedSimpArgs false
set_option linter.unusedVariables false
namespace Go.Proofs.Ythjjfdbkggiaeaa
open Go Go.RowKit Go.ChangeShapes Go.WideShapes Go.ChangeAt Go.Deep Go.ChangeMaps

set_option maxRecDepth 100000 in
theorem exactMerge_lifted (os : Os) (started : os.Started) (H : Type) (enc : TypeId × Value → H) :
    ReturnsInHanded {} Try.checked os 13 .any (Rows.fnExactMergeEnumsSpec.pre6 enc Try.prog Try.f13 Rows.fnExactMergeEnumsRow.domain false) (Rows.fnExactMergeEnumsSpec.post enc Try.prog Try.f13 false true false false) := by
  refine returnsInHanded_of_change (C := Try.checked) own started (by kernel_rfl) Try.func13
    (ChangeSpec.witness6 (enc := enc) (C := Try.checked) false ⟨#[], #[.agg #[.slice none 0 0], .agg #[.slice none 0 0]], []⟩ 8 (by kernel_rfl) (by kernel_rfl) (by kernel_rfl) (by kernel_rfl)) ?_
  intro W base args ds gs before hval0 hW hcnd _
  have hval : ∀ (j : Nat) t v, Try.f13.params[j]? = some t → args[j]? = some v → Value.okWide Try.prog W .any base t v := hval0
  have hW' : DataW.Whole enc Try.prog Try.f13.params.toList Rows.fnExactMergeEnumsSpec.vars false W args.toList ds gs before := hW
  obtain ⟨p, q, hA0, hV, rfl, hfz, hnd⟩ := hW
  have hA : DataW.TrodAll enc Try.prog W 0 (fun _ => true) true Try.f13.params.toList args.toList ds p := hA0
  rw [Try.params13] at hA hval
  obtain ⟨v0, v1, d0, d1, p0, p1, rfl, rfl, rfl, h0, h1⟩ := trodAll_two hA
  obtain ⟨c0, rfl, hr0⟩ := open_lEnum (hval 0 _ _ rfl rfl) h0
  obtain ⟨c1, rfl, hr1⟩ := open_lEnum (hval 1 _ _ rfl rfl) h1
  obtain ⟨μ, σ, x, l, hO, hS, hVw, hx, hsl, hl1, hl2, _⟩ := (Opn.start W).defs u_str u_int hr0
  obtain ⟨μ2, σ2, y, m, hO2, hS2, hVw2, hy, hsl2, hm1, hm2, _⟩ := hO.defs u_str u_int hr1
  have hcall := hO2.calls (exactMerge_c σ2 _ x y l m (hsl.vw hVw2) hsl2 hl1 hm1 hl2 hm2) (vs := [.agg #[c0], .agg #[c1]]) (by simp [VRels, VRel, VRel.mono hS2 _ _ hx, hy])
  exact hcall.mono fun e W' ⟨he, hb⟩ => ⟨_, he, law_post laidOut (by intro t ht; revert t; decide) rfl u_bool rfl rfl hW' hb⟩

theorem exactMerge_holds : Rows.FnExactMergeEnumsSaid :=
  OpenClaim.holds_of_wide 13 Try.f13 rfl rfl rfl rfl rfl rfl rfl ⟨rfl, rfl, rfl, rfl, rfl⟩ rfl rfl rfl rfl rfl (by kernel_rfl) Try.func13 (by kernel_rfl)
    (of_decide_eq_true (by kernel_rfl)) (by unfold Func.isWrapper; first | (rw [if_pos (by decide +kernel)]; kernel_rfl) | (rw [if_neg (by decide +kernel)]; exact ⟨rfl, rfl⟩))
    (fun os started H enc _ => exactMerge_lifted os started H enc)
end Go.Proofs.Ythjjfdbkggiaeaa
