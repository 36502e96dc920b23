/- Contracts: bits, in the reference and in Go's library. No condition but sizes. -/
import Derived.Test.YtgaiemhbllbaiaaF1
import Derived.Test.YtgaiemhbllbaiaaLC
set_option linter.unusedSimpArgs false
set_option linter.unusedVariables false
namespace Go.Proofs.Ytgaiemhbllbaiaa
open Go Go.RowKit

abbrev i64R (a : Int) : Prop := -9223372036854775808 ≤ a ∧ a ≤ 9223372036854775807
theorem pow2_bd {k : Nat} (h : k ≤ 12) : 1 ≤ (2 : Int) ^ k ∧ (k < 12 → (2 : Int) ^ k ≤ 2048) ∧ (k = 12 → (2 : Int) ^ k = 4096) := by
  have h0 : 1 ≤ 2 ^ k := Nat.one_le_two_pow
  rw [pow_cast]
  refine ⟨by omega, fun h1 => ?_, fun h1 => by subst h1; rfl⟩
  have : 2 ^ k ≤ 2 ^ 11 := Nat.pow_le_pow_right (by omega) (by omega)
  omega
theorem tdv_wrap {a p : Int} (ha : i64R a) (hp : 1 ≤ p) : IntKind.wrap .i64 (a.tdiv p) = a.tdiv p := by
  rcases Int.lt_or_le a 0 with h | h
  · have e : a.tdiv p = -((-a).tdiv p) := by rw [Int.neg_tdiv]; omega
    have h1 : (-a).tdiv p = (-a) / p := Int.tdiv_eq_ediv_of_nonneg (by omega)
    have h2 : 0 ≤ (-a) / p := Int.ediv_nonneg (by omega) (by omega)
    have h3 : (-a) / p ≤ -a := Int.ediv_le_self _ (by omega)
    have := ha.1
    exact w64 _ (by omega) (by omega)
  · have h1 : a.tdiv p = a / p := Int.tdiv_eq_ediv_of_nonneg h
    have h2 : 0 ≤ a / p := Int.ediv_nonneg h (by omega)
    have h3 : a / p ≤ a := Int.ediv_le_self _ h
    have := ha.2
    exact w64 _ (by omega) (by omega)

theorem pcF_half (f n : Nat) : pcF (f + 1) n = n % 2 + pcF f (n / 2) := rfl
/-- The next bit behind all values. -/
theorem pw_nat {j : Nat} (h : j ≤ 12) : 1 ≤ 2 ^ j ∧ 2 ^ j ≤ 4096 := ⟨Nat.one_le_two_pow, by have := Nat.pow_le_pow_right (n := 2) (by omega) h; omega⟩
end Go.Proofs.Ytgaiemhbllbaiaa
