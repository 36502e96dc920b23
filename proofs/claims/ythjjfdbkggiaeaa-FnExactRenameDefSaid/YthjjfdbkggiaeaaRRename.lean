/- The law of RenameDef against its reference: for every enumeration and all texts it answers true, and the arguments read as before. No condition. -/
import Derived.Test.YthjjfdbkggiaeaaOpnD
import Derived.Test.YthjjfdbkggiaeaaLRename
set_option linter.unusedSimpArgs false
set_option linter.unusedVariables false
namespace Go.Proofs.Ythjjfdbkggiaeaa
open Go Go.RowKit Go.ChangeShapes Go.WideShapes Go.ChangeAt Go.Deep Go.ChangeMaps

set_option maxRecDepth 100000 in
theorem exactRename_lifted (os : Os) (started : os.Started) (H : Type) (enc : TypeId × Value → H) :
    ReturnsInHanded {} Try.checked os 4 .any (Rows.fnExactRenameDefSpec.pre6 enc Try.prog Try.f4 Rows.fnExactRenameDefRow.domain false) (Rows.fnExactRenameDefSpec.post enc Try.prog Try.f4 false true false false) := by
  refine returnsInHanded_of_change (C := Try.checked) own started (by kernel_rfl) Try.func4
    (ChangeSpec.witness6 (enc := enc) (C := Try.checked) false ⟨#[], #[.agg #[.slice none 0 0], .string ByteArray.empty, .string ByteArray.empty], []⟩ 8 (by kernel_rfl) (by kernel_rfl) (by kernel_rfl) (by kernel_rfl)) ?_
  intro W base args ds gs before hval0 hW hcnd _
  have hval : ∀ (j : Nat) t v, Try.f4.params[j]? = some t → args[j]? = some v → Value.okWide Try.prog W .any base t v := hval0
  have hW' : DataW.Whole enc Try.prog Try.f4.params.toList Rows.fnExactRenameDefSpec.vars false W args.toList ds gs before := hW
  obtain ⟨p, q, hA0, hV, rfl, hfz, hnd⟩ := hW
  have hA : DataW.TrodAll enc Try.prog W 0 (fun _ => true) true Try.f4.params.toList args.toList ds p := hA0
  rw [Try.params4] at hA hval
  obtain ⟨v0, v1, v2, d0, d1, d2, p0, p1, p2, rfl, rfl, rfl, h0, h1, h2⟩ := trodAll_three hA
  obtain ⟨c0, rfl, hr0⟩ := open_lEnum (hval 0 _ _ rfl rfl) h0
  obtain ⟨t, rfl, _, _, ht⟩ := open_string u_str (hval 1 _ _ rfl rfl) h1
  obtain ⟨u, rfl, _, _, hu⟩ := open_string u_str (hval 2 _ _ rfl rfl) h2
  obtain ⟨μ, σ, x, l, hO, hS, hVw, hx, hsl, hl1, hl2, _⟩ := (Opn.start W).defs u_str u_int hr0
  unfold maxLen at ht hu
  have hcall := hO.calls (exactRename_c σ 1 x l t u hsl hl1 hl2 (by omega) (by omega)) (vs := [.agg #[c0], .string t, .string u]) (by simp [VRels, VRel, hx])
  exact hcall.mono fun e W' ⟨he, hb⟩ => ⟨_, he, law_post laidOut (by intro t ht; revert t; decide) rfl u_bool rfl rfl hW' hb⟩

theorem exactRename_holds : Rows.FnExactRenameDefSaid :=
  OpenClaim.holds_of_wide 4 Try.f4 rfl rfl rfl rfl rfl rfl rfl ⟨rfl, rfl, rfl, rfl, rfl⟩ rfl rfl rfl rfl rfl (by kernel_rfl) Try.func4 (by kernel_rfl)
    (of_decide_eq_true (by kernel_rfl)) (by unfold Func.isWrapper; first | (rw [if_pos (by decide +kernel)]; kernel_rfl) | (rw [if_neg (by decide +kernel)]; exact ⟨rfl, rfl⟩))
    (fun os started H enc _ => exactRename_lifted os started H enc)
end Go.Proofs.Ythjjfdbkggiaeaa
