/- Contracts: tables of enumerations. No condition but sizes. -/
import Derived.Test.YtbdehnjbglpfjaaN1
import Derived.Test.YtbdehnjbglpfjaaB3
import Derived.Test.YtbdehnjbglpfjaaLB
set_option linter.unusedSimpArgs false
set_option linter.unusedVariables false
namespace Go.Proofs.Ytbdehnjbglpfjaa
open Go Go.RowKit

def isI (p : Int → Bool) : List AV → Bool
  | [.v (.int .i64 n)] => p n
  | _ => false
theorem idx_any {α : Type} (p : α → Bool) (l : List α) : decide (0 ≤ idx p l) = l.any p := by
  rcases idx_cases p l with ⟨h, h2⟩ | ⟨i, hi, h, h2, _⟩
  · rw [h]
    have : l.any p = false := by rw [List.any_eq_false]; intro x hx; simp [h2 x hx]
    rw [this]; rfl
  · rw [h]
    have : l.any p = true := List.any_eq_true.2 ⟨_, List.getElem_mem hi, h2⟩
    rw [this]
    exact decide_eq_true (by omega)
def inT (n : Int) : Bool := decide (-1000 ≤ n ∧ n ≤ 1000)
/-- A table of an enumeration. -/
def tkO (ds : List Df) (t : List Int) : Bool := okDs (-1000) 1000 ds && decide (t.length = (memF ds).length) && t.all inT
theorem not_any_not (t : List Int) : (!(t.any fun n => !inT n)) = t.all inT := by
  rw [List.any_eq_not_all_not]
  simp
theorem dec_nat (a b : Nat) : decide ((a : Int) = b) = decide (a = b) := by
  by_cases h : a = b
  · simp [h]
  · rw [decide_eq_false h, decide_eq_false (by omega)]

/-- The number of a name in a table. -/
def luO (ds : List Df) (t : List Int) (s : ByteArray) : Option Int := if tkO ds t = true ∧ 0 ≤ rkO ds s then some (t.getD (rkO ds s).toNat 0) else none
theorem tkO_ok {ds : List Df} {t : List Int} (h : tkO ds t = true) : okDs (-1000) 1000 ds = true ∧ t.length = (memF ds).length ∧ ∀ n ∈ t, -1000 ≤ n ∧ n ≤ 1000 := by
  simp only [tkO, Bool.and_eq_true, decide_eq_true_eq, List.all_eq_true, inT] at h
  exact ⟨h.1.1, h.1.2, h.2⟩
theorem rk_lt {ds : List Df} {s : ByteArray} (h : 0 ≤ rkO ds s) : (rkO ds s).toNat < (memF ds).length := by
  cases hv : valO ds s with
  | none => simp only [rkO, hv] at h; omega
  | some n =>
    obtain ⟨r, hr, e, _⟩ := rk_some hv
    omega
end Go.Proofs.Ytbdehnjbglpfjaa
