/- The law FnExactFittingNames, for all arguments: it answers true, and the arguments read as before. No condition. -/
import Derived.Test.YtbdehnjbglpfjaaOpnD
import Derived.Test.YtbdehnjbglpfjaaOpnF
import Derived.Test.YtbdehnjbglpfjaaOpnL
import Derived.Test.YtbdehnjbglpfjaaLXFt
set_option linter.unusedSimpArgs false
set_option linter.unusedVariables false
namespace Go.Proofs.Ytbdehnjbglpfjaa
open Go Go.RowKit Go.ChangeShapes Go.WideShapes Go.ChangeAt Go.Deep Go.ChangeMaps

set_option maxRecDepth 100000 in
theorem exactFt_lifted (os : Os) (started : os.Started) (H : Type) (enc : TypeId × Value → H) :
    ReturnsInHanded {} Try.checked os 11 .any (Rows.fnExactFittingNamesSpec.pre6 enc Try.prog Try.f11 Rows.fnExactFittingNamesRow.domain false) (Rows.fnExactFittingNamesSpec.post enc Try.prog Try.f11 false true false false) := by
  refine returnsInHanded_of_change (C := Try.checked) own started (by kernel_rfl) Try.func11
    (ChangeSpec.witness6 (enc := enc) (C := Try.checked) false ⟨#[], #[.agg #[.slice none 0 0, .int .i64 0], .int .i64 0], []⟩ 8 (by kernel_rfl) (by kernel_rfl) (by kernel_rfl) (by kernel_rfl)) ?_
  intro W base args ds gs before hval0 hW hcnd _
  have hval : ∀ (j : Nat) t v, Try.f11.params[j]? = some t → args[j]? = some v → Value.okWide Try.prog W .any base t v := hval0
  have hW' : DataW.Whole enc Try.prog Try.f11.params.toList Rows.fnExactFittingNamesSpec.vars false W args.toList ds gs before := hW
  obtain ⟨p, q, hA0, hV, rfl, hfz, hnd⟩ := hW
  have hA : DataW.TrodAll enc Try.prog W 0 (fun _ => true) true Try.f11.params.toList args.toList ds p := hA0
  rw [Try.params11] at hA hval
  obtain ⟨v0, v1, d0, d1, p0, p1, rfl, rfl, rfl, h0, h1⟩ := trodAll_two hA
  obtain ⟨c0, bd0, rfl, hr0, hbd0⟩ := open_lFlag (hval 0 _ _ rfl rfl) h0
  obtain ⟨μ0, σ0, x0, l0, hO0, hS0, hV0, hx0, hs0, hl0, hz0, hw0⟩ := (Opn.start W).defs u_str u_int hr0
  obtain ⟨n1, rfl, hn1⟩ := open_i64 (hval 1 _ _ rfl rfl) h1
  have hcall := hO0.calls (exactFt_c σ0 _ x0 l0 bd0 n1 hs0 hl0 hz0 hw0 hbd0 hn1) (vs := [.agg #[c0, .int .i64 bd0], .int .i64 n1]) (vr_cons (vr_agg (vr_cons hx0 (vr_cons (vr_v _) vr_nil))) (vr_cons (vr_v _) (vr_nil)))
  exact hcall.mono fun e W' ⟨he, hb⟩ => ⟨_, he, law_post laidOut (by intro t ht; revert t; decide) rfl u_bool rfl rfl hW' hb⟩

theorem exactFt_holds : Rows.FnExactFittingNamesSaid :=
  OpenClaim.holds_of_wide 11 Try.f11 rfl rfl rfl rfl rfl rfl rfl ⟨rfl, rfl, rfl, rfl, rfl⟩ rfl rfl rfl rfl rfl (by kernel_rfl) Try.func11 (by kernel_rfl)
    (of_decide_eq_true (by kernel_rfl)) (by unfold Func.isWrapper; first | (rw [if_pos (by decide +kernel)]; kernel_rfl) | (rw [if_neg (by decide +kernel)]; exact ⟨rfl, rfl⟩))
    (fun os started H enc _ => exactFt_lifted os started H enc)
end Go.Proofs.Ytbdehnjbglpfjaa
