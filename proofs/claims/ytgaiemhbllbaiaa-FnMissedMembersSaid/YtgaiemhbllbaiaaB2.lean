/- Contracts: lists of numbers: equal, ascending. No condition. -/
import Derived.Test.YtgaiemhbllbaiaaCE4
set_option linter.unusedSimpArgs false
set_option linter.unusedVariables false
namespace Go.Proofs.Ytgaiemhbllbaiaa
open Go Go.RowKit

theorem rowsI_get (l : List Int) (i : Nat) (h : i < l.length) : (rowsI l)[i]'(by rw [rowsI_len]; exact h) = [.v (.int .i64 l[i])] := by simp [rowsI]
def ascI (l : List Int) : Bool := (List.range (l.length - 1)).all fun i => decide (l.getD i 0 < l.getD (i + 1) 0)
end Go.Proofs.Ytgaiemhbllbaiaa
