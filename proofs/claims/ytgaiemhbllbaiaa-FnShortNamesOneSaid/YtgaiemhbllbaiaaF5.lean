/- Contracts: what classes of flags compute, in the program and in the reference. No condition but sizes. -/
import Derived.Test.YtgaiemhbllbaiaaF3
set_option linter.unusedSimpArgs false
set_option linter.unusedVariables false
namespace Go.Proofs.Ytgaiemhbllbaiaa
open Go Go.RowKit

theorem isv_ok {ds : List Df} {bd n : Int} (h : isv ds bd n = true) : okFl ds bd = true ∧ 0 ≤ n ∧ n ≤ 4095 ∧ (bd = 3 ∨ n.toNat - (n.toNat &&& mkN ds) = 0) := by
  simp only [isv, Bool.and_eq_true, Bool.or_eq_true, decide_eq_true_eq] at h
  exact ⟨h.1.1, h.1.2.1, h.1.2.2, h.2⟩

/-- How many bits a value has. -/
def cbI (ds : List Df) (bd n : Int) : Int := if isv ds bd n = true then (pcN n.toNat : Int) else -1
/-- The inverse of a value. -/
def ivI (ds : List Df) (bd n : Int) : Int := if isv ds bd n = true then ((whN ds bd - (whN ds bd &&& n.toNat) : Nat) : Int) else -1
/-- What a number becomes, and how. -/
def mvV (ds : List Df) (bd n : Int) : Int × Int :=
  if okFl ds bd = true ∧ -4096 ≤ n ∧ n ≤ 4095 then
    if n < 0 then (((whN ds bd - (whN ds bd &&& (-n - 1).toNat) : Nat) : Int), 0)
    else if n.toNat - (n.toNat &&& mkN ds) = 0 ∨ bd = 3 then (n, 0)
    else if bd = 1 then (((n.toNat &&& mkN ds : Nat) : Int), 0)
    else if bd = 2 then (n, 1) else (0, 2)
  else (0, 2)
theorem mvV_no {ds : List Df} {bd n : Int} (h : ¬ (okFl ds bd = true ∧ -4096 ≤ n ∧ n ≤ 4095)) : mvV ds bd n = (0, 2) := if_neg h
theorem mvV_neg {ds : List Df} {bd n : Int} (h : okFl ds bd = true) (h1 : -4096 ≤ n) (h2 : n < 0) : mvV ds bd n = (((whN ds bd - (whN ds bd &&& (-n - 1).toNat) : Nat) : Int), 0) := by
  unfold mvV
  rw [if_pos ⟨h, h1, by omega⟩, if_pos h2]
theorem mvV_pos {ds : List Df} {bd : Int} {m : Nat} (h : okFl ds bd = true) (hm : m ≤ 4095) : mvV ds bd m = (if m - (m &&& mkN ds) = 0 ∨ bd = 3 then ((m : Int), 0) else if bd = 1 then (((m &&& mkN ds : Nat) : Int), 0) else if bd = 2 then ((m : Int), 1) else (0, 2)) := by
  unfold mvV
  rw [if_pos ⟨h, by omega, by omega⟩, if_neg (by omega), Int.toNat_natCast]
end Go.Proofs.Ytgaiemhbllbaiaa
