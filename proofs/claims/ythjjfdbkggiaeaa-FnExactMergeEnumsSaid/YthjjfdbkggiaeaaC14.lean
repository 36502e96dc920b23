/- The exact law of RenameDef: outcomes of both functions, sizes of the arguments. No condition. -/
import Derived.Test.YthjjfdbkggiaeaaC13
set_option linter.unusedSimpArgs false
set_option linter.unusedVariables false
namespace Go.Proofs.Ythjjfdbkggiaeaa
open Go Go.RowKit

/-- How an enumeration that may be none is handed back. -/
def eOut (ν : Nat) (cap : Nat → Option Nat) : Option (List Df) → AV
  | some l => .sl ν 0 l.length (cap l.length) 2
  | none => nilA
def dOut (ν : Nat) : Option (List Df) → Sto
  | some l => upd noS ν (blkD l)
  | none => noS
theorem eOut_some (ν : Nat) (cap : Nat → Option Nat) (l : List Df) : eOut ν cap (some l) = .sl ν 0 l.length (cap l.length) 2 := by simp only [eOut]
theorem eOut_none (ν : Nat) (cap : Nat → Option Nat) : eOut ν cap none = nilA := by simp only [eOut]
theorem dOut_some (ν : Nat) (l : List Df) : dOut ν (some l) = upd noS ν (blkD l) := by simp only [dOut]
theorem dOut_none (ν : Nat) : dOut ν none = noS := by simp only [dOut]

def renO (ds : List Df) (t u : ByteArray) : Option (List Df) :=
  if okDs (-1000) 1000 ds = true ∧ 0 ≤ nameIx ds t ∧ okDs (-1000) 1000 (renD ds (nameIx ds t).toNat u) = true then some (renD ds (nameIx ds t).toNat u) else none

theorem szF_neg : ∀ (ds : List Df) (k : Int), k < 0 → ds = [] ∨ szF ds k = -1
  | [], k, h => .inl rfl
  | d :: ds, k, h => .inr (by simp only [szF]; rw [if_pos (by omega)])
theorem szF_sz : ∀ (ds : List Df) (k : Int), 0 ≤ k → 0 ≤ szF ds k → ∀ d ∈ ds, (d.1.size : Int) ≤ k
  | [], k, _, h, d, hd => by simp at hd
  | x :: ds, k, hk, h, d, hd => by
    simp only [szF] at h
    split at h
    · omega
    · rename_i h0
      rcases List.mem_cons.1 hd with rfl | hd
      · omega
      · have := szF_sz ds _ (by omega) h d hd
        omega
theorem szF_le : ∀ (ds : List Df) (k : Int), 0 ≤ k → szF ds k ≤ k
  | [], k, _ => by simp [szF]
  | x :: ds, k, hk => by
    simp only [szF]
    split
    · omega
    · have := szF_le ds (k - x.1.size) (by omega)
      omega
theorem szL_sz {ds : List Df} {k : Int} (hk : 0 ≤ k) (h : 0 ≤ szL ds k) : (ds.length : Int) ≤ k ∧ (∀ d ∈ ds, (d.1.size : Int) ≤ k) ∧ szL ds k ≤ k := by
  unfold szL at h ⊢
  split at h
  · omega
  · rename_i h0
    rw [if_neg h0]
    have := szF_le ds (k - ds.length) (by omega)
    refine ⟨by omega, fun d hd => ?_, by omega⟩
    have := szF_sz ds (k - ds.length) (by omega) h d hd
    omega

set_option maxRecDepth 10000 in
set_option maxHeartbeats 1000000 in
theorem renameDef_o (σ : Sto) (ν : Nat) (x : AV) (ds : List Df) (t u : ByteArray) (hx : Sl σ x 2 (rowsD ds)) (hlen : ds.length ≤ 4294967296) (hsz : ∀ d ∈ ds, d.1.size ≤ 9223372036854775807) (hu : u.size ≤ 9223372036854775807) :
    AC Try.prog 24 [.agg [x], .v (.string t), .v (.string u)] σ ν fun r δ => r = .tup [.agg [eOut ν some (renO ds t u)], .v (.bool (renO ds t u).isSome)] ∧ δ = dOut ν (renO ds t u) := by
  rcases nameIx_cases ds t with h | ⟨i, hil, hi, _⟩
  · have e : renO ds t u = none := by unfold renO; rw [if_neg (by omega)]
    rw [e]
    exact renameDef_none σ ν x ds t u hx hlen h
  · cases hok : okDs (-1000) 1000 ds && okDs (-1000) 1000 (renD ds i u) with
    | true =>
      simp only [Bool.and_eq_true] at hok
      have e : renO ds t u = some (renD ds i u) := by unfold renO; rw [hi, if_pos ⟨hok.1, by omega, hok.2⟩]; rfl
      rw [e, eOut_some, renD_len, dOut_some]
      exact renameDef_yes σ ν x ds t u hx hlen hsz hu i hil hi hok.1 hok.2
    | false =>
      have e : renO ds t u = none := by
        unfold renO
        rw [hi, if_neg]
        rintro ⟨h1, _, h2⟩
        simp only [Int.toNat_natCast] at h2
        rw [h1, h2] at hok
        cases hok
      rw [e]
      exact renameDef_no σ ν x ds t u hx hlen hsz hu i hil hi hok

set_option maxRecDepth 10000 in
set_option maxHeartbeats 1000000 in
theorem renameDefS_o (σ : Sto) (ν : Nat) (x : AV) (ds : List Df) (t u : ByteArray) (hx : Sl σ x 2 (rowsD ds)) (hlen : ds.length ≤ 4294967296) (hsz : ∀ d ∈ ds, d.1.size ≤ 9223372036854775807) (hu : u.size ≤ 9223372036854775807) :
    AC Try.prog 22 [.agg [x], .v (.string t), .v (.string u)] σ ν fun r δ => r = .tup [.agg [eOut ν (fun _ => none) (renO ds t u)], .v (.bool (renO ds t u).isSome)] ∧ δ = dOut ν (renO ds t u) := by
  rcases nameIx_cases ds t with h | ⟨i, hil, hi, _⟩
  · have e : renO ds t u = none := by unfold renO; rw [if_neg (by omega)]
    rw [e]
    exact renameDefS_none σ ν x ds t u hx hlen hsz (.inl h)
  · cases h1 : okDs (-1000) 1000 ds with
    | false =>
      have e : renO ds t u = none := by unfold renO; rw [h1, if_neg (by simp)]
      rw [e]
      exact renameDefS_none σ ν x ds t u hx hlen hsz (.inr h1)
    | true =>
      cases h2 : okDs (-1000) 1000 (renD ds i u) with
      | true =>
        have e : renO ds t u = some (renD ds i u) := by unfold renO; rw [hi, if_pos ⟨h1, by omega, h2⟩]; rfl
        rw [e, eOut_some, renD_len, dOut_some]
        exact renameDefS_yes σ ν x ds t u hx hlen hsz hu i hil hi h1 h2
      | false =>
        have e : renO ds t u = none := by
          unfold renO
          rw [hi, if_neg]
          rintro ⟨_, _, h3⟩
          simp only [Int.toNat_natCast] at h3
          rw [h3] at h2
          cases h2
        rw [e]
        exact renameDefS_no σ ν x ds t u hx hlen hsz hu i hil hi h1 h2
theorem renO_len {ds : List Df} {t u : ByteArray} {l : List Df} (h : renO ds t u = some l) : l.length = ds.length := by
  unfold renO at h
  split at h
  · cases h; exact renD_len _ _ _
  · cases h
end Go.Proofs.Ythjjfdbkggiaeaa
