/- Plain facts on gaps; slices.Clip of numbers. No condition. -/
import Derived.Test.YtgaiemhbllbaiaaB1
import Derived.Test.YtgaiemhbllbaiaaB2
set_option linter.unusedSimpArgs false
set_option linter.unusedVariables false
namespace Go.Proofs.Ytgaiemhbllbaiaa
open Go Go.RowKit

abbrev blkI (l : List Int) : Blk := ⟨3, 1, rowsI l, true⟩
theorem flatI (l : List Int) : flatB (blkI l) := by
  intro e he v hv
  simp only [rowsI, List.mem_map] at he
  obtain ⟨d, _, rfl⟩ := he
  simp at hv
  rw [hv]; rfl
theorem rowsI_snoc (l : List Int) (n : Int) : rowsI l ++ [[.v (.int .i64 n)]] = rowsI (l ++ [n]) := by simp [rowsI]
theorem rowsI_take (l : List Int) : (rowsI l).take l.length = rowsI l := List.take_of_length_le (by rw [rowsI_len]; exact Nat.le_refl _)
/-- The numbers of lo, lo + 1 .. that no definition has. -/
def gpL (ds : List Df) (lo : Int) (k : Nat) : List Int := ((List.range k).map fun i : Nat => lo + (i : Int)).filter fun n => decide (valueIx ds n < 0)
theorem gpL_succ (ds : List Df) (lo : Int) (k : Nat) : gpL ds lo (k + 1) = if valueIx ds (lo + k) < 0 then gpL ds lo k ++ [lo + (k : Int)] else gpL ds lo k := by
  unfold gpL
  rw [List.range_succ, List.map_append, List.filter_append]
  by_cases h : valueIx ds (lo + k) < 0 <;> simp [List.filter_cons, h]
theorem gpL_len (ds : List Df) (lo : Int) (k : Nat) : (gpL ds lo k).length ≤ k := by
  unfold gpL
  refine Nat.le_trans (List.length_filter_le _ _) ?_
  simp
theorem gpL_mono (ds : List Df) (lo : Int) {j k : Nat} (h : j ≤ k) : (gpL ds lo j).length ≤ (gpL ds lo k).length := by
  induction k with
  | zero => have : j = 0 := by omega
            subst this; exact Nat.le_refl _
  | succ k ih =>
    rcases Nat.lt_or_ge k j with h2 | h2
    · have : j = k + 1 := by omega
      subst this; exact Nat.le_refl _
    · have := ih h2
      rw [gpL_succ]
      split
      · simp; omega
      · exact this
theorem gpL_mem {ds : List Df} {lo : Int} {k : Nat} {n : Int} : n ∈ gpL ds lo k ↔ lo ≤ n ∧ n < lo + k ∧ valueIx ds n < 0 := by
  unfold gpL
  simp only [List.mem_filter, List.mem_map, List.mem_range, decide_eq_true_eq]
  constructor
  · rintro ⟨⟨i, hi, rfl⟩, h⟩
    exact ⟨by omega, by omega, h⟩
  · rintro ⟨h1, h2, h3⟩
    exact ⟨⟨(n - lo).toNat, by omega, by omega⟩, h3⟩
end Go.Proofs.Ytgaiemhbllbaiaa
