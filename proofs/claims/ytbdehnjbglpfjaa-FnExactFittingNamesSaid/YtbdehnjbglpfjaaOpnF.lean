/- Arguments of the laws: classes of flags. No condition. -/
import Derived.Test.YtbdehnjbglpfjaaOpnL
set_option linter.unusedSimpArgs false
set_option linter.unusedVariables false
namespace Go.Proofs.Ytbdehnjbglpfjaa
open Go Go.RowKit Go.ChangeShapes Go.WideShapes Go.Deep

set_option maxRecDepth 100000 in
theorem open_lFlag {H : Type} {enc : TypeId × Value → H} {W : World} {base : Nat} {spare : Nat → Bool} {held : Bool} {r : Reach} {b0 : Nat} {v : Value} {d : DataW H} {p : List MemPlace} (hval : Value.okWide Try.prog W r b0 37 v) (h : DataW.Trod enc Try.prog W base spare held 37 v d p) :
    ∃ (c : Value) (bd : Int), v = .agg #[c, .int .i64 bd] ∧ RowsV Try.prog W [9, 3] c ∧ -9223372036854775808 ≤ bd ∧ bd ≤ 9223372036854775807 := by
  have key := fun hf => open_fields Try.underlying37 (by kernel_rfl) hf hval h
  obtain ⟨cs, rfl, hcl, hc⟩ := key (by
    intro j f hj
    match j, hj with
    | 0, hj => cases hj; exact ⟨rfl, by kernel_rfl⟩
    | 1, hj => cases hj; exact ⟨rfl, by kernel_rfl⟩
    | n + 2, hj => simp at hj)
  obtain ⟨c0, n0, x0, hc0, hr0⟩ := hc 0 _ rfl
  obtain ⟨c1, n1, x1, hc1, hr1⟩ := hc 1 _ rfl
  match cs, hcl, hc0, hc1 with
  | [c, e], _, hc0, hc1 =>
    cases hc0
    cases hc1
    obtain ⟨w, hw, hok⟩ := cell_okV (.inl (.inr ⟨_, u_int⟩)) hr1
    cases hw
    obtain ⟨n, rfl, hn⟩ := okV_int u_int hok
    exact ⟨_, n, rfl, rows_of Try.underlying35 ok_lDef (by kernel_rfl) hr0, hn.1, hn.2⟩
end Go.Proofs.Ytbdehnjbglpfjaa
