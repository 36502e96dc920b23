/- Plain facts on merged enumerations: they tell both, and the other way round they mean the same. No condition: nothing of the program stands here but names of its types. -/
import Derived.Test.YtgaiemhbllbaiaaK1
set_option linter.unusedSimpArgs false
set_option linter.unusedVariables false
namespace Go.Proofs.Ytgaiemhbllbaiaa
open Go Go.RowKit

theorem mg_parts {ds es l : List Df} (h : mgO ds es = some l) : l = mgL ds es ∧ okDs (-1000) 1000 ds = true ∧ okDs (-1000) 1000 es = true ∧ okDs (-1000) 1000 (mgL ds es) = true ∧ ∀ d ∈ ds, ∀ e ∈ es, d.1 = e.1 → d.2 = e.2 := by
  unfold mgO at h
  split at h
  · rename_i hc
    obtain ⟨h1, h2, h3, h4⟩ := hc
    cases h
    refine ⟨rfl, h1, h2, h4, fun d hd e he hn => ?_⟩
    have hcf := List.any_eq_false.1 h3 e he
    have hx : eAt ds (nameIx ds e.1) = d := by rw [← hn]; exact eAt_mem h1 hd
    have hp : 0 ≤ nameIx ds e.1 := by have := nameIx_pos hd; rw [hn] at this; omega
    have hc2 : conf ds e = (decide (0 ≤ nameIx ds e.1) && !decide ((eAt ds (nameIx ds e.1)).2 = e.2)) := rfl
    rw [hc2, hx, decide_eq_true hp] at hcf
    simpa using hcf
  · cases h
theorem mgL_mem {ds es : List Df} {x : Df} : x ∈ mgL ds es ↔ x ∈ ds ∨ x ∈ es ∧ nameIx ds x.1 < 0 := by
  unfold mgL newD
  simp [List.mem_append, List.mem_filter]
theorem mgL_has {ds es : List Df} {x : Df} (h : x ∈ ds ∨ x ∈ es) (hc : ∀ d ∈ ds, ∀ e ∈ es, d.1 = e.1 → d.2 = e.2) : ∃ y ∈ mgL ds es, y.1 = x.1 ∧ y.2 = x.2 := by
  rcases h with h | h
  · exact ⟨x, mgL_mem.2 (.inl h), rfl, rfl⟩
  · by_cases hn : nameIx ds x.1 < 0
    · exact ⟨x, mgL_mem.2 (.inr ⟨h, hn⟩), rfl, rfl⟩
    · obtain ⟨i, hi, _, e2, _⟩ := name_mem hn
      exact ⟨ds[i], mgL_mem.2 (.inl (List.getElem_mem hi)), e2, hc _ (List.getElem_mem hi) _ h e2⟩
theorem mgL_from {ds es : List Df} {x : Df} (h : x ∈ mgL ds es) : x ∈ ds ∨ x ∈ es := (mgL_mem.1 h).imp id And.left
theorem mg_back {ds es l : List Df} (h : mgO ds es = some l) : mgO es ds = some (mgL es ds) ∧ okDs (-1000) 1000 (mgL es ds) = true := by
  obtain ⟨rfl, h1, h2, h4, hc⟩ := mg_parts h
  have hpw : (mgL es ds).Pairwise fun a b => a.1 ≠ b.1 := by
    unfold mgL
    rw [List.pairwise_append]
    refine ⟨ok_names h2, (ok_names h1).sublist List.filter_sublist, fun a ha b hb => ?_⟩
    have hb2 : nameIx es b.1 < 0 := of_decide_eq_true (List.mem_filter.1 hb).2
    exact nameIx_neg.1 hb2 a ha
  have hle := names_le _ (mgL ds es) hpw fun x hx => by
    obtain ⟨y, hy, h3, _⟩ := mgL_has (x := x) (mgL_from hx).symm hc
    exact ⟨y, hy, h3⟩
  have hok : okDs (-1000) 1000 (mgL es ds) = true := by
    rw [okDs_pw]
    refine ⟨Nat.le_trans hle (okDs_pw.1 h4).1, fun d hd => ?_, hpw⟩
    rcases mgL_from hd with hd | hd
    · exact (okDs_pw.1 h2).2.1 d hd
    · exact (okDs_pw.1 h1).2.1 d hd
  refine ⟨?_, hok⟩
  unfold mgO
  refine if_pos ⟨h2, h1, ?_, hok⟩
  rw [List.any_eq_false]
  intro d hd
  have hc2 : conf es d = (decide (0 ≤ nameIx es d.1) && !decide ((eAt es (nameIx es d.1)).2 = d.2)) := rfl
  rw [hc2]
  by_cases hp : 0 ≤ nameIx es d.1
  · obtain ⟨i, hi, _, e2, e3⟩ := name_mem (show ¬ nameIx es d.1 < 0 by omega)
    rw [e3]
    have := hc d hd _ (List.getElem_mem hi) e2.symm
    simp [this]
  · simp [hp]
theorem mg_same {ds es l : List Df} (h : mgO ds es = some l) : smB (mgL es ds) l = true := by
  have hb := mg_back h
  obtain ⟨rfl, h1, h2, h4, hc⟩ := mg_parts h
  refine same_of hb.2 h4 (fun x hx => mgL_has (mgL_from hx).symm hc) fun e he => ?_
  obtain ⟨y, hy, h3, _⟩ := mgL_has (ds := es) (es := ds) (x := e) (mgL_from he).symm fun d hd e he hn => (hc e he d hd hn.symm).symm
  exact ⟨y, hy, h3⟩
theorem mg_val {ds es l : List Df} (h : mgO ds es = some l) : ∀ d ∈ ds ++ es, valO l d.1 = some d.2 := by
  obtain ⟨rfl, h1, h2, h4, hc⟩ := mg_parts h
  intro d hd
  obtain ⟨y, hy, h3, h5⟩ := mgL_has (List.mem_append.1 hd) hc
  obtain ⟨i, hi, e1, e2, e3⟩ := name_mem (nameIx_pos hy)
  have hiy : (mgL ds es)[i] = y := pw_eq (ok_names h4) (List.getElem_mem hi) hy e2
  rw [← h3, valO_yes h4 hi e1, hiy, h5]
end Go.Proofs.Ytgaiemhbllbaiaa
