/- Contracts: names of more bits, parts of values. No condition but sizes. -/
import Derived.Test.YtgaiemhbllbaiaaF5
import Derived.Test.YtgaiemhbllbaiaaCE3
import Derived.Test.YtgaiemhbllbaiaaB4
set_option linter.unusedSimpArgs false
set_option linter.unusedVariables false
namespace Go.Proofs.Ytgaiemhbllbaiaa
open Go Go.RowKit

theorem pcF_none : ∀ f n, n < 2 ^ f → pcF f n = 0 → n = 0
  | 0, n, h, _ => by simpa using h
  | f + 1, n, h, h0 => by
    rw [pcF] at h0
    rw [Nat.pow_succ] at h
    have := pcF_none f (n / 2) (by omega) (by omega)
    omega
theorem pcN_none {n : Nat} (h : n < 4096) (h0 : pcN n = 0) : n = 0 := pcF_none 12 n h h0
def pcP (d : Df) : Bool := decide (1 < pcN d.2.toNat)
def coO (ds : List Df) (bd : Int) : Option (List ByteArray) := if okFl ds bd = true then some (nmF pcP ds) else none
/-- The parts of a value below k. -/
def ptL (a k : Nat) : List Int := ((List.range k).filter fun n => decide (n - (n &&& a) = 0)).map fun (n : Nat) => (n : Int)
theorem ptL_succ (a k : Nat) : ptL a (k + 1) = if k - (k &&& a) = 0 then ptL a k ++ [(k : Int)] else ptL a k := by
  unfold ptL
  rw [List.range_succ, List.filter_append, List.map_append]
  by_cases h : k - (k &&& a) = 0 <;> simp [List.filter_cons, h]
theorem ptL_len (a k : Nat) : (ptL a k).length ≤ k := by
  unfold ptL
  rw [List.length_map]
  exact Nat.le_trans (List.length_filter_le _ _) (by simp)
def ptO (ds : List Df) (bd n : Int) : Option (List Int) := if isv ds bd n = true ∧ pcN n.toNat ≤ 6 then some (ptL n.toNat (n.toNat + 1)) else none
theorem ptO_no {ds : List Df} {bd n : Int} (h : isv ds bd n = false) : ptO ds bd n = none := by unfold ptO; rw [if_neg (by simp [h])]
theorem ptO_big {ds : List Df} {bd : Int} {m : Nat} (h : 6 < pcN m) : ptO ds bd m = none := by unfold ptO; rw [if_neg (by rw [Int.toNat_natCast]; omega)]
theorem ptO_yes {ds : List Df} {bd : Int} {m : Nat} (h : isv ds bd m = true) (h6 : pcN m ≤ 6) : ptO ds bd m = some (ptL m (m + 1)) := by unfold ptO; rw [Int.toNat_natCast, if_pos ⟨h, h6⟩]
end Go.Proofs.Ytgaiemhbllbaiaa
