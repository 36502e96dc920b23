/- Contracts: the reference's GapsOf. No condition. -/
import Derived.Test.YtgaiemhbllbaiaaB3
set_option linter.unusedSimpArgs false
set_option linter.unusedVariables false
namespace Go.Proofs.Ytgaiemhbllbaiaa
open Go Go.RowKit

def iOut (ν : Nat) (cap : Nat → Option Nat) : Option (List Int) → AV
  | some l => .sl ν 0 l.length (cap l.length) 1
  | none => nilA
def dOutI (ν : Nat) : Option (List Int) → Sto
  | some l => upd noS ν (blkI l)
  | none => noS
theorem iOut_some (ν : Nat) (cap : Nat → Option Nat) (l : List Int) : iOut ν cap (some l) = .sl ν 0 l.length (cap l.length) 1 := by simp only [iOut]
theorem iOut_none (ν : Nat) (cap : Nat → Option Nat) : iOut ν cap none = nilA := by simp only [iOut]
theorem dOutI_some (ν : Nat) (l : List Int) : dOutI ν (some l) = upd noS ν (blkI l) := by simp only [dOutI]
theorem dOutI_none (ν : Nat) : dOutI ν none = noS := by simp only [dOutI]
def gpN (ds : List Df) : Nat := (grV ds 0 - loV ds).toNat
def gpA (ds : List Df) : List Int := gpL ds (loV ds) (gpN ds)
def gpO (ds : List Df) : Option (List Int) := if okDs (-1000) 1000 ds = true ∧ (gpA ds).length ≤ 30 then some (gpA ds) else none
theorem grV_bd {lo hi : Int} (h0 : lo ≤ 0 ∧ 0 ≤ hi) (ds : List Df) (h : ∀ d ∈ ds, lo ≤ d.2 ∧ d.2 ≤ hi) : lo ≤ grV ds 0 ∧ grV ds 0 ≤ hi := by
  cases ds with
  | nil => exact h0
  | cons d l => exact gtV_bd l d.2 (fun e he => h e (by simp [he])) (h d (by simp))
theorem loV_bd {lo hi : Int} (h0 : lo ≤ 0 ∧ 0 ≤ hi) (ds : List Df) (h : ∀ d ∈ ds, lo ≤ d.2 ∧ d.2 ≤ hi) : lo ≤ loV ds ∧ loV ds ≤ hi := by
  cases ds with
  | nil => exact h0
  | cons d l => exact ltV_bd l d.2 (fun e he => h e (by simp [he])) (h d (by simp))
theorem okDs_bd {lo hi : Int} {ds : List Df} (h : okDs lo hi ds = true) : ∀ d ∈ ds, lo ≤ d.2 ∧ d.2 ≤ hi := fun d hd => by
  obtain ⟨i, hi', rfl⟩ := List.mem_iff_getElem.1 hd
  obtain ⟨_, a, b, _⟩ := okDs_at h hi'
  exact ⟨a, b⟩

end Go.Proofs.Ytgaiemhbllbaiaa
