/- The law FnExactMissedMembers, for all arguments: it answers true, and the arguments read as before. No condition. -/
import Derived.Test.YtgaiemhbllbaiaaOpnD
import Derived.Test.YtgaiemhbllbaiaaOpnL
import Derived.Test.YtgaiemhbllbaiaaLXMm
set_option linter.unusedSimpArgs false
set_option linter.unusedVariables false
namespace Go.Proofs.Ytgaiemhbllbaiaa
open Go Go.RowKit Go.ChangeShapes Go.WideShapes Go.ChangeAt Go.Deep Go.ChangeMaps

set_option maxRecDepth 100000 in
theorem exactMm_lifted (os : Os) (started : os.Started) (H : Type) (enc : TypeId × Value → H) :
    ReturnsInHanded {} Try.checked os 8 .any (Rows.fnExactMissedMembersSpec.pre6 enc Try.prog Try.f8 Rows.fnExactMissedMembersRow.domain false) (Rows.fnExactMissedMembersSpec.post enc Try.prog Try.f8 false true false false) := by
  refine returnsInHanded_of_change (C := Try.checked) own started (by kernel_rfl) Try.func8
    (ChangeSpec.witness6 (enc := enc) (C := Try.checked) false ⟨#[], #[.agg #[.slice none 0 0], .slice none 0 0], []⟩ 8 (by kernel_rfl) (by kernel_rfl) (by kernel_rfl) (by kernel_rfl)) ?_
  intro W base args ds gs before hval0 hW hcnd _
  have hval : ∀ (j : Nat) t v, Try.f8.params[j]? = some t → args[j]? = some v → Value.okWide Try.prog W .any base t v := hval0
  have hW' : DataW.Whole enc Try.prog Try.f8.params.toList Rows.fnExactMissedMembersSpec.vars false W args.toList ds gs before := hW
  obtain ⟨p, q, hA0, hV, rfl, hfz, hnd⟩ := hW
  have hA : DataW.TrodAll enc Try.prog W 0 (fun _ => true) true Try.f8.params.toList args.toList ds p := hA0
  rw [Try.params8] at hA hval
  obtain ⟨v0, v1, d0, d1, p0, p1, rfl, rfl, rfl, h0, h1⟩ := trodAll_two hA
  obtain ⟨c0, rfl, hr0⟩ := open_lEnum (hval 0 _ _ rfl rfl) h0
  obtain ⟨μ0, σ0, x0, l0, hO0, hS0, hV0, hx0, hs0, hl0, hz0, hw0⟩ := (Opn.start W).defs u_str u_int hr0
  have hr1 := open_lStrs (hval 1 _ _ rfl rfl) h1
  obtain ⟨μ1, σ1, x1, l1, hO1, hS1, hV1, hx1, hs1, hl1, hz1⟩ := hO0.strs u_str hr1
  have hcall := hO1.calls (exactMm_c σ1 _ x0 l0 x1 l1 (hs0.vw hV1) hl0 hz0 hs1 hl1 hz1) (vs := [.agg #[c0], v1]) (vr_cons (vr_agg (vr_cons (VRel.mono hS1 _ _ hx0) vr_nil)) (vr_cons (hx1) (vr_nil)))
  exact hcall.mono fun e W' ⟨he, hb⟩ => ⟨_, he, law_post laidOut (by intro t ht; revert t; decide) rfl u_bool rfl rfl hW' hb⟩

theorem exactMm_holds : Rows.FnExactMissedMembersSaid :=
  OpenClaim.holds_of_wide 8 Try.f8 rfl rfl rfl rfl rfl rfl rfl ⟨rfl, rfl, rfl, rfl, rfl⟩ rfl rfl rfl rfl rfl (by kernel_rfl) Try.func8 (by kernel_rfl)
    (of_decide_eq_true (by kernel_rfl)) (by unfold Func.isWrapper; first | (rw [if_pos (by decide +kernel)]; kernel_rfl) | (rw [if_neg (by decide +kernel)]; exact ⟨rfl, rfl⟩))
    (fun os started H enc _ => exactMm_lifted os started H enc)
end Go.Proofs.Ytgaiemhbllbaiaa
