/- The law of OtherNames against its reference, for every enumeration and text: it answers true, and the arguments read as before. No condition. -/
import Derived.Test.YthjjfdbkggiaeaaOpnD
import Derived.Test.YthjjfdbkggiaeaaLOth
set_option linter.unusedSimpArgs false
set_option linter.unusedVariables false
namespace Go.Proofs.Ythjjfdbkggiaeaa
open Go Go.RowKit Go.ChangeShapes Go.WideShapes Go.ChangeAt Go.Deep Go.ChangeMaps
set_option maxRecDepth 100000 in
theorem exactOther_lifted (os : Os) (started : os.Started) (H : Type) (enc : TypeId × Value → H) :
    ReturnsInHanded {} Try.checked os 14 .any (Rows.fnExactOtherNamesSpec.pre6 enc Try.prog Try.f14 Rows.fnExactOtherNamesRow.domain false) (Rows.fnExactOtherNamesSpec.post enc Try.prog Try.f14 false true false false) := by
  refine returnsInHanded_of_change (C := Try.checked) own started (by kernel_rfl) Try.func14
    (ChangeSpec.witness6 (enc := enc) (C := Try.checked) false ⟨#[], #[.agg #[.slice none 0 0], .string ByteArray.empty], []⟩ 8 (by kernel_rfl) (by kernel_rfl) (by kernel_rfl) (by kernel_rfl)) ?_
  intro W base args ds gs before hval0 hW hcnd _
  have hval : ∀ (j : Nat) t v, Try.f14.params[j]? = some t → args[j]? = some v → Value.okWide Try.prog W .any base t v := hval0
  have hW' : DataW.Whole enc Try.prog Try.f14.params.toList Rows.fnExactOtherNamesSpec.vars false W args.toList ds gs before := hW
  obtain ⟨p, q, hA0, hV, rfl, hfz, hnd⟩ := hW
  have hA : DataW.TrodAll enc Try.prog W 0 (fun _ => true) true Try.f14.params.toList args.toList ds p := hA0
  rw [Try.params14] at hA hval
  obtain ⟨v0, v1, d0, d1, p0, p1, rfl, rfl, rfl, h0, h1⟩ := trodAll_two hA
  obtain ⟨c0, rfl, hr0⟩ := open_lEnum (hval 0 _ _ rfl rfl) h0
  obtain ⟨t, rfl, _, _, ht⟩ := open_string u_str (hval 1 _ _ rfl rfl) h1
  obtain ⟨μ, σ, x, l, hO, hS, hVw, hx, hsl, hl1, hl2, _⟩ := (Opn.start W).defs u_str u_int hr0
  unfold maxLen at ht
  have hcall := hO.calls (exactOther_c σ 1 x l t hsl hl1 hl2 (by omega)) (vs := [.agg #[c0], .string t]) (by simp [VRels, VRel, hx])
  exact hcall.mono fun e W' ⟨he, hb⟩ => ⟨_, he, law_post laidOut (by intro t ht; revert t; decide) rfl u_bool rfl rfl hW' hb⟩

theorem exactOther_holds : Rows.FnExactOtherNamesSaid :=
  OpenClaim.holds_of_wide 14 Try.f14 rfl rfl rfl rfl rfl rfl rfl ⟨rfl, rfl, rfl, rfl, rfl⟩ rfl rfl rfl rfl rfl (by kernel_rfl) Try.func14 (by kernel_rfl)
    (of_decide_eq_true (by kernel_rfl)) (by unfold Func.isWrapper; first | (rw [if_pos (by decide +kernel)]; kernel_rfl) | (rw [if_neg (by decide +kernel)]; exact ⟨rfl, rfl⟩))
    (fun os started H enc _ => exactOther_lifted os started H enc)
end Go.Proofs.Ythjjfdbkggiaeaa
