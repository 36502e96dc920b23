/- A drawn region's call that writes an elder block and makes a new one (as in A8, for seats without arms). No condition: nothing of a program stands here. -/
import Derived.Test.YtgaiemhbllbaiaaLB
set_option linter.unusedSimpArgs false
set_option linter.unusedVariables false
namespace Go.Proofs.Ytgaiemhbllbaiaa
open Go Go.RowKit
section
variable {P : Program} {ds : List (Option Tmp)} {M0 : Nat} {K : DK} {tr : List En} {τ : Tm} {σ : Sto} {i : Nat}
/-- A call that writes an elder block and makes a new one. -/
theorem dStop_bothF {f : FuncId} {args : List AV} {d : Option Tmp} {rest : List Oper} (F : List Nat) (b : Nat) {v : AV} {k k2 : Blk} (h : ∀ σ' : Sto, (∀ b ∈ F, σ' b = σ b) → AC P f args σ' (M0 + 2 * i) fun r δ' => r = v ∧ δ' = upd (upd noS b k) (M0 + 2 * i) k2)
    (h3 : dOps P ds M0 rest (i + 1) K (⟨d, v, [b, M0 + 2 * i], upd (upd noS b k) (M0 + 2 * i) k2, F⟩ :: tr) (put d v τ) (upd (upd σ b k) (M0 + 2 * i) k2)) : dStop P ds M0 f args d rest i K tr τ σ := by
  refine ⟨F, [b, M0 + 2 * i], v, upd (upd noS b k) (M0 + 2 * i) k2, h, fun c hc => ?_, fun c hc => ?_, ?_⟩
  · simp only [List.mem_cons, List.not_mem_nil, or_false, not_or] at hc
    rw [upd_ne _ _ _ _ hc.2, upd_ne _ _ _ _ hc.1]
    rfl
  · by_cases e : c = M0 + 2 * i
    · subst e; rw [upd_eq]; simp
    · rw [upd_ne _ _ _ _ e]
      simp only [List.mem_cons, List.not_mem_nil, or_false] at hc
      rcases hc with hc | hc
      · subst hc; rw [upd_eq]; simp
      · exact absurd hc e
  · have e : ovr σ (upd (upd noS b k) (M0 + 2 * i) k2) = upd (upd σ b k) (M0 + 2 * i) k2 := by
      funext c
      unfold ovr
      by_cases e1 : c = M0 + 2 * i
      · subst e1; rw [upd_eq, upd_eq]
      · rw [upd_ne _ _ _ _ e1, upd_ne _ _ _ _ e1]
        by_cases e2 : c = b
        · subst e2; rw [upd_eq, upd_eq]
        · rw [upd_ne _ _ _ _ e2, upd_ne _ _ _ _ e2]
          rfl
    rw [e]
    exact h3
end
end Go.Proofs.Ytgaiemhbllbaiaa
