/- Plain facts on lists of definitions: members, searches. No condition. -/
import Derived.Test.YthjjfdbkggiaeaaD1
set_option linter.unusedSimpArgs false
set_option linter.unusedVariables false
namespace Go.Proofs.Ythjjfdbkggiaeaa
open Go Go.RowKit

theorem idx_cases {α : Type} (p : α → Bool) (l : List α) : (idx p l = -1 ∧ ∀ e ∈ l, p e = false) ∨ ∃ i : Nat, ∃ h : i < l.length, idx p l = i ∧ p l[i] = true ∧ ∀ e ∈ l.take i, p e = false := by
  unfold idx
  cases h : l.findIdx? p with
  | none =>
    rw [List.findIdx?_eq_none_iff] at h
    exact .inl ⟨rfl, h⟩
  | some i =>
    rw [List.findIdx?_eq_some_iff_getElem] at h
    obtain ⟨h1, h2, h3⟩ := h
    refine .inr ⟨i, h1, rfl, h2, fun e he => ?_⟩
    rw [List.mem_take_iff_getElem] at he
    obtain ⟨j, hj, rfl⟩ := he
    have := h3 j (by omega)
    simpa using this
theorem idx_neg {α : Type} {p : α → Bool} {l : List α} : idx p l < 0 ↔ ∀ e ∈ l, p e = false := by
  rcases idx_cases p l with ⟨h1, h2⟩ | ⟨i, hi, h1, h2, h3⟩
  · exact ⟨fun _ => h2, fun _ => by omega⟩
  · refine ⟨fun h => by omega, fun h => ?_⟩
    rw [h _ (List.getElem_mem hi)] at h2
    cases h2
theorem valueIx_neg {l : List Df} {n : Int} : valueIx l n < 0 ↔ ∀ d ∈ l, d.2 ≠ n := by
  unfold valueIx
  rw [idx_neg]
  simp
theorem nameIx_neg {l : List Df} {t : ByteArray} : nameIx l t < 0 ↔ ∀ d ∈ l, d.1 ≠ t := by
  unfold nameIx
  rw [idx_neg]
  simp
theorem valueIx_cases (l : List Df) (n : Int) : (valueIx l n = -1 ∧ ∀ d ∈ l, d.2 ≠ n) ∨ ∃ i : Nat, ∃ h : i < l.length, valueIx l n = i ∧ l[i].2 = n ∧ ∀ d ∈ l.take i, d.2 ≠ n := by
  rcases idx_cases (fun d : Df => decide (d.2 = n)) l with ⟨h1, h2⟩ | ⟨i, hi, h1, h2, h3⟩
  · exact .inl ⟨h1, by simpa using h2⟩
  · exact .inr ⟨i, hi, h1, by simpa using h2, by simpa using h3⟩
theorem nameIx_all (l : List Df) (t : ByteArray) : (nameIx l t = -1 ∧ ∀ d ∈ l, d.1 ≠ t) ∨ ∃ i : Nat, ∃ h : i < l.length, nameIx l t = i ∧ l[i].1 = t ∧ ∀ d ∈ l.take i, d.1 ≠ t := by
  rcases idx_cases (fun d : Df => decide (d.1 = t)) l with ⟨h1, h2⟩ | ⟨i, hi, h1, h2, h3⟩
  · exact .inl ⟨h1, by simpa using h2⟩
  · exact .inr ⟨i, hi, h1, by simpa using h2, by simpa using h3⟩

theorem nameIx_cases (ds : List Df) (t : ByteArray) : nameIx ds t = -1 ∨ ∃ i : Nat, ∃ h : i < ds.length, nameIx ds t = i ∧ ds[i].1 = t := by
  rcases nameIx_all ds t with ⟨h, _⟩ | ⟨i, h, e, h2, _⟩
  · exact .inl h
  · exact .inr ⟨i, h, e, h2⟩

/-- The members: the first definition of each value. -/
def memStep (out : List Df) (d : Df) : List Df := if valueIx out d.2 < 0 then out ++ [d] else out
def memF (ds : List Df) : List Df := ds.foldl memStep []
theorem memF_snoc (ds : List Df) (d : Df) : memF (ds ++ [d]) = memStep (memF ds) d := by simp [memF]
theorem memF_take {ds : List Df} {k : Nat} (h : k < ds.length) : memF (ds.take (k + 1)) = memStep (memF (ds.take k)) ds[k] := by
  rw [List.take_succ_eq_append_getElem h, memF_snoc]
theorem memF_len (ds : List Df) : (memF ds).length ≤ ds.length := by
  have key : ∀ k, k ≤ ds.length → (memF (ds.take k)).length ≤ k := by
    intro k
    induction k with
    | zero => intro _; simp [memF]
    | succ k ih =>
      intro h
      rw [memF_take (by omega)]
      have := ih (by omega)
      unfold memStep
      split
      · simp; omega
      · omega
  have := key ds.length (Nat.le_refl _)
  rwa [List.take_length] at this
theorem memF_sub (ds : List Df) : ∀ d ∈ memF ds, d ∈ ds := by
  have key : ∀ k, k ≤ ds.length → ∀ d ∈ memF (ds.take k), d ∈ ds := by
    intro k
    induction k with
    | zero => intro _ d hd; simp [memF] at hd
    | succ k ih =>
      intro h d hd
      rw [memF_take (by omega)] at hd
      unfold memStep at hd
      split at hd
      · rcases List.mem_append.1 hd with hd | hd
        · exact ih (by omega) d hd
        · rw [List.mem_singleton.1 hd]; exact List.getElem_mem _
      · exact ih (by omega) d hd
  have := key ds.length (Nat.le_refl _)
  rwa [List.take_length] at this
theorem memF_val (ds : List Df) (n : Int) : (∃ d ∈ memF ds, d.2 = n) ↔ ∃ d ∈ ds, d.2 = n := by
  have key : ∀ k, k ≤ ds.length → ((∃ d ∈ memF (ds.take k), d.2 = n) ↔ ∃ d ∈ ds.take k, d.2 = n) := by
    intro k
    induction k with
    | zero => intro _; simp [memF]
    | succ k ih =>
      intro h
      have ih := ih (by omega)
      rw [memF_take (by omega), List.take_succ_eq_append_getElem (by omega)]
      unfold memStep
      split
      · constructor
        · rintro ⟨d, hd, rfl⟩
          rcases List.mem_append.1 hd with hd | hd
          · obtain ⟨e, he, h2⟩ := ih.1 ⟨d, hd, rfl⟩
            exact ⟨e, List.mem_append.2 (.inl he), h2⟩
          · exact ⟨d, List.mem_append.2 (.inr hd), rfl⟩
        · rintro ⟨d, hd, rfl⟩
          rcases List.mem_append.1 hd with hd | hd
          · obtain ⟨e, he, h2⟩ := ih.2 ⟨d, hd, rfl⟩
            exact ⟨e, List.mem_append.2 (.inl he), h2⟩
          · exact ⟨d, List.mem_append.2 (.inr hd), rfl⟩
      · rename_i hn
        constructor
        · rintro hd
          obtain ⟨e, he, h2⟩ := ih.1 hd
          exact ⟨e, List.mem_append.2 (.inl he), h2⟩
        · rintro ⟨d, hd, rfl⟩
          rcases List.mem_append.1 hd with hd | hd
          · exact ih.2 ⟨d, hd, rfl⟩
          · rw [List.mem_singleton.1 hd] at *
            rcases valueIx_cases (memF (ds.take k)) ds[k].2 with ⟨h1, _⟩ | ⟨i, hi, _, h2, _⟩
            · omega
            · exact ⟨_, List.getElem_mem hi, h2⟩
  have := key ds.length (Nat.le_refl _)
  rwa [List.take_length] at this
/-- A definition is a member where no one ahead of it has its value. -/
theorem mem_iff {ds : List Df} {k : Nat} (h : k < ds.length) : valueIx (memF (ds.take k)) ds[k].2 < 0 ↔ valueIx ds ds[k].2 = k := by
  have h1 : valueIx (memF (ds.take k)) ds[k].2 < 0 ↔ ∀ d ∈ ds.take k, d.2 ≠ ds[k].2 := by
    rw [valueIx_neg]
    have := memF_val (ds.take k) ds[k].2
    constructor
    · intro hh d hd e
      obtain ⟨d', hd', e'⟩ := this.2 ⟨d, hd, e⟩
      exact hh d' hd' e'
    · intro hh d hd e
      obtain ⟨d', hd', e'⟩ := this.1 ⟨d, hd, e⟩
      exact hh d' hd' e'
  rw [h1]
  constructor
  · intro hh
    exact idx_at h (fun e he => by simpa using hh e he) (by simp)
  · intro hh
    rcases valueIx_cases ds ds[k].2 with ⟨h2, _⟩ | ⟨i, hi, h2, _, h3⟩
    · omega
    · have : i = k := by omega
      subst this
      exact h3
theorem okDs_len {lo hi : Int} {ds : List Df} (h : okDs lo hi ds = true) : ds.length ≤ 12 := by
  unfold okDs at h
  simp only [Bool.and_eq_true, decide_eq_true_eq] at h
  omega
theorem okDs_at {lo hi : Int} {ds : List Df} (h : okDs lo hi ds = true) {i : Nat} (hi' : i < ds.length) : vname ds[i].1 = true ∧ lo ≤ ds[i].2 ∧ ds[i].2 ≤ hi ∧ nameIx (ds.take i) ds[i].1 < 0 := by
  unfold okDs okTo at h
  simp only [Bool.and_eq_true, decide_eq_true_eq, List.all_eq_true, List.mem_range] at h
  have := h.1 i hi'
  rw [okAt_eq _ _ _ _ hi'] at this
  simp only [Bool.and_eq_true, decide_eq_true_eq] at this
  exact ⟨this.1.1, this.1.2.1, this.1.2.2, this.2⟩
theorem okDs_iff {lo hi : Int} {ds : List Df} : okDs lo hi ds = true ↔ ds.length ≤ 12 ∧ ∀ i, ∀ h : i < ds.length, vname ds[i].1 = true ∧ lo ≤ ds[i].2 ∧ ds[i].2 ≤ hi ∧ nameIx (ds.take i) ds[i].1 < 0 := by
  refine ⟨fun h => ⟨okDs_len h, fun i hi' => okDs_at h hi'⟩, fun ⟨h1, h2⟩ => ?_⟩
  unfold okDs okTo
  simp only [Bool.and_eq_true, decide_eq_true_eq, List.all_eq_true, List.mem_range]
  refine ⟨fun i hi' => ?_, by omega⟩
  rw [okAt_eq _ _ _ _ hi']
  obtain ⟨a, b, c, d⟩ := h2 i hi'
  simp [a, b, c, d]
/-- The value of a name, the member of a value. -/
def valO (ds : List Df) (t : ByteArray) : Option Int := if okDs (-1000) 1000 ds = true ∧ 0 ≤ nameIx ds t then some (ds.getD (nameIx ds t).toNat (ByteArray.empty, 0)).2 else none
def nameO (ds : List Df) (n : Int) : Option ByteArray := if okDs (-1000) 1000 ds = true ∧ 0 ≤ valueIx ds n then some (ds.getD (valueIx ds n).toNat (ByteArray.empty, 0)).1 else none
theorem valO_no {ds : List Df} {t : ByteArray} (h : ¬ (okDs (-1000) 1000 ds = true ∧ 0 ≤ nameIx ds t)) : valO ds t = none := by unfold valO; rw [if_neg h]
theorem valO_yes {ds : List Df} {t : ByteArray} {i : Nat} (h : okDs (-1000) 1000 ds = true) (hi : i < ds.length) (hx : nameIx ds t = i) : valO ds t = some ds[i].2 := by
  unfold valO
  rw [if_pos ⟨h, by omega⟩, hx]
  simp [List.getD_eq_getElem?_getD, List.getElem?_eq_getElem hi]
theorem nameO_no {ds : List Df} {n : Int} (h : ¬ (okDs (-1000) 1000 ds = true ∧ 0 ≤ valueIx ds n)) : nameO ds n = none := by unfold nameO; rw [if_neg h]
theorem nameO_yes {ds : List Df} {n : Int} {i : Nat} (h : okDs (-1000) 1000 ds = true) (hi : i < ds.length) (hx : valueIx ds n = i) : nameO ds n = some ds[i].1 := by
  unfold nameO
  rw [if_pos ⟨h, by omega⟩, hx]
  simp [List.getD_eq_getElem?_getD, List.getElem?_eq_getElem hi]
end Go.Proofs.Ythjjfdbkggiaeaa
