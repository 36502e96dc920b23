/- Plain facts: the members that a list of names leaves out, and that nothing is left out once they are added. No condition but that the enumeration is valid. -/
import Derived.Test.YtgaiemhbllbaiaaMM1
import Derived.Test.YtgaiemhbllbaiaaPM
set_option linter.unusedSimpArgs false
set_option linter.unusedVariables false
namespace Go.Proofs.Ytgaiemhbllbaiaa
open Go Go.RowKit

theorem valO_mem {ds : List Df} (h : okDs (-1000) 1000 ds = true) {d : Df} (hd : d ∈ memF ds) : valO ds d.1 = some d.2 := by
  obtain ⟨i, hi, rfl, _⟩ := memF_first ds d hd
  exact valO_yes h hi (name_at h hi)
theorem ms_mem {ds : List Df} {L : List ByteArray} {t : ByteArray} (h : t ∈ nmF (msP ds L) (memF ds)) : ∃ d, d ∈ memF ds ∧ d.1 = t ∧ d.2 ∉ vlL ds L := by
  simp only [nmF, List.mem_map, List.mem_filter, msP, Bool.not_eq_true', decide_eq_false_iff_not] at h
  obtain ⟨d, ⟨h1, h2⟩, h3⟩ := h
  exact ⟨d, h1, h3, h2⟩
/-- What is known of a name that is left out: its value, which no name of the list has; it is a member's. -/
theorem ms_at {ds : List Df} {L : List ByteArray} (hok : okDs (-1000) 1000 ds = true) {t : ByteArray} (h : t ∈ nmF (msP ds L) (memF ds)) : ∃ n : Int, valO ds t = some n ∧ n ∉ vlL ds L ∧ hasF (nmF (fun _ => true) (memF ds)) t = true := by
  obtain ⟨d, hd, rfl, hn⟩ := ms_mem h
  exact ⟨d.2, valO_mem hok hd, hn, by rw [hasF_iff, nmF_true]; exact List.mem_map.2 ⟨d, hd, rfl⟩⟩
theorem vl_at {ds : List Df} {L : List ByteArray} {n : Int} (h : n ∉ vlL ds L) {i : Nat} (hi : i < L.length) : ¬ (valO ds L[i]).getD 0 = n := by
  intro e
  exact h (e ▸ List.mem_map.2 ⟨L[i], List.getElem_mem hi, rfl⟩)
theorem ms_all {ds : List Df} {L l : List ByteArray} (h : msO ds L = some l) : okDs (-1000) 1000 ds = true ∧ knT ds L = true ∧ l = nmF (msP ds L) (memF ds) := by
  unfold msO at h
  split at h
  · rename_i hc
    cases h
    exact ⟨hc.1, hc.2, rfl⟩
  · cases h
theorem ms_done {ds : List Df} {L l : List ByteArray} (h : msO ds L = some l) : msO ds (L ++ l) = some [] := by
  obtain ⟨hok, hk, rfl⟩ := ms_all h
  have hk2 : knT ds (L ++ nmF (msP ds L) (memF ds)) = true := by
    unfold knT at hk ⊢
    rw [List.all_append, hk, Bool.true_and, List.all_eq_true]
    intro t ht
    obtain ⟨n, hn, _⟩ := ms_at hok ht
    simp [hn]
  unfold msO
  rw [if_pos ⟨hok, hk2⟩]
  have h0 : (memF ds).filter (msP ds (L ++ nmF (msP ds L) (memF ds))) = [] := by
    rw [List.filter_eq_nil_iff]
    intro d hd
    simp only [msP, Bool.not_eq_true', decide_eq_false_iff_not, Classical.not_not, vlL, List.map_append, List.mem_append]
    by_cases hin : d.2 ∈ vlL ds L
    · exact .inl hin
    · refine .inr (List.mem_map.2 ⟨d.1, ?_, by rw [valO_mem hok hd]; rfl⟩)
      exact List.mem_map.2 ⟨d, List.mem_filter.2 ⟨hd, by simp [msP, hin]⟩, rfl⟩
  generalize msP ds (L ++ nmF (msP ds L) (memF ds)) = p at h0 ⊢
  simp only [nmF, h0, List.map_nil]
end Go.Proofs.Ytgaiemhbllbaiaa
