/- Contracts: values joined, bounds kept. No condition but sizes. -/
import Derived.Test.YtgaiemhbllbaiaaF5
import Derived.Test.YtgaiemhbllbaiaaLC
set_option linter.unusedSimpArgs false
set_option linter.unusedVariables false
namespace Go.Proofs.Ytgaiemhbllbaiaa
open Go Go.RowKit

/-- Whether a value has all bits of another one. -/
def haB (ds : List Df) (bd a b : Int) : Bool := isv ds bd a && isv ds bd b && decide (b.toNat - (b.toNat &&& a.toNat) = 0)
/-- A value made of two ones. -/
def opI (g : Nat → Nat → Nat) (ds : List Df) (bd a b : Int) : Int := if isv ds bd a = true ∧ isv ds bd b = true then (g a.toNat b.toNat : Int) else -1
theorem opI_no {g : Nat → Nat → Nat} {ds : List Df} {bd a b : Int} (h : ¬ (isv ds bd a = true ∧ isv ds bd b = true)) : opI g ds bd a b = -1 := if_neg h
theorem opI_yes {g : Nat → Nat → Nat} {ds : List Df} {bd : Int} {a b : Nat} (h1 : isv ds bd a = true) (h2 : isv ds bd b = true) : opI g ds bd a b = (g a b : Int) := by
  unfold opI
  rw [if_pos ⟨h1, h2⟩, Int.toNat_natCast, Int.toNat_natCast]
end Go.Proofs.Ytgaiemhbllbaiaa
