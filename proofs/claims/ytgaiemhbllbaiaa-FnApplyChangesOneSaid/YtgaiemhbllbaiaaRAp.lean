/- The law of ApplyChangesOne, for every code: it answers true, and the argument reads as before. No condition. -/
import Derived.Test.YtgaiemhbllbaiaaOpnB
import Derived.Test.YtgaiemhbllbaiaaLAp
set_option linter.unusedSimpArgs false
set_option linter.unusedVariables false
namespace Go.Proofs.Ytgaiemhbllbaiaa
open Go Go.RowKit Go.ChangeShapes Go.WideShapes Go.ChangeAt Go.Deep Go.ChangeMaps
set_option maxRecDepth 100000 in
theorem apply_law_lifted (os : Os) (started : os.Started) (H : Type) (enc : TypeId × Value → H) :
    ReturnsInHanded {} Try.checked os 6 .any (Rows.fnApplyChangesOneSpec.pre6 enc Try.prog Try.f6 Rows.fnApplyChangesOneRow.domain false) (Rows.fnApplyChangesOneSpec.post enc Try.prog Try.f6 false true false false) := by
  refine returnsInHanded_of_change (C := Try.checked) own started (by kernel_rfl) Try.func6
    (ChangeSpec.witness6 (enc := enc) (C := Try.checked) false ⟨#[], #[.slice none 0 0], []⟩ 8 (by kernel_rfl) (by kernel_rfl) (by kernel_rfl) (by kernel_rfl)) ?_
  intro W base args ds gs before hval0 hW hcnd _
  have hval : ∀ (j : Nat) t v, Try.f6.params[j]? = some t → args[j]? = some v → Value.okWide Try.prog W .any base t v := hval0
  have hW' : DataW.Whole enc Try.prog Try.f6.params.toList Rows.fnApplyChangesOneSpec.vars false W args.toList ds gs before := hW
  obtain ⟨p, q, hA0, hV, rfl, hfz, hnd⟩ := hW
  have hA : DataW.TrodAll enc Try.prog W 0 (fun _ => true) true Try.f6.params.toList args.toList ds p := hA0
  rw [Try.params6] at hA hval
  obtain ⟨v0, d0, rfl, rfl, h0⟩ := trodAll_one hA
  have hr0 := open_code (hval 0 _ _ rfl rfl) h0
  obtain ⟨μ, σ, x, bs, hO, hS, hVw, hx, hsl, hl1, h8⟩ := (Opn.start W).bytes u_u8 hr0
  have hcall := hO.calls (apply_law_c σ 1 x bs hsl hl1 h8) (vs := [v0]) (by simpa [VRels] using hx)
  exact hcall.mono fun e W' ⟨he, hb⟩ => ⟨_, he, law_post laidOut (by intro t ht; revert t; decide) rfl u_bool rfl rfl hW' hb⟩

theorem apply_law_holds : Rows.FnApplyChangesOneSaid :=
  OpenClaim.holds_of_wide 6 Try.f6 rfl rfl rfl rfl rfl rfl rfl ⟨rfl, rfl, rfl, rfl, rfl⟩ rfl rfl rfl rfl rfl (by kernel_rfl) Try.func6 (by kernel_rfl)
    (of_decide_eq_true (by kernel_rfl)) (by unfold Func.isWrapper; first | (rw [if_pos (by decide +kernel)]; kernel_rfl) | (rw [if_neg (by decide +kernel)]; exact ⟨rfl, rfl⟩))
    (fun os started H enc _ => apply_law_lifted os started H enc)
end Go.Proofs.Ytgaiemhbllbaiaa
