/- Contracts: the reference's other names; marks in lists of texts. No condition. -/
import Derived.Test.YtbcooikoaplhcaaPM
import Derived.Test.YtbcooikoaplhcaaLC
set_option linter.unusedSimpArgs false
set_option linter.unusedVariables false
namespace Go.Proofs.Ytbcooikoaplhcaa
open Go Go.RowKit

theorem drop_take_succ {α : Type} {l : List α} {m k : Nat} (h : k < l.length) (hm : m ≤ k) : (l.take (k + 1)).drop m = (l.take k).drop m ++ [l[k]] := by
  rw [List.take_succ_eq_append_getElem h, List.drop_append_of_le_length (by simp; omega)]
/-- The names of a value behind its first definition are those that are not the first one's. -/
theorem oth_drop {ds : List Df} (hok : okDs (-1000) 1000 ds = true) {m : Nat} (hm : m < ds.length) (hv : valueIx ds ds[m].2 = m) : nmF (fun d => decide (d.2 = ds[m].2)) (ds.drop (m + 1)) = oth ds ds[m] := by
  unfold oth nmF
  congr 1
  have h1 : ds = ds.take m ++ ds[m] :: ds.drop (m + 1) := by rw [← List.drop_eq_getElem_cons hm, List.take_append_drop]
  have hp := ok_names hok
  generalize hd : ds[m] = d at *
  rcases valueIx_cases ds d.2 with ⟨h2, _⟩ | ⟨i, hi, h2, _, h3⟩
  · omega
  · have : i = m := by omega
    subst this
    have e1 : (ds.take i).filter (fun e => decide (e.2 = d.2) && !decide (e.1 = d.1)) = [] := by
      rw [List.filter_eq_nil_iff]
      intro e he
      simp [h3 e he]
    have e2 : (ds.drop (i + 1)).filter (fun e => decide (e.2 = d.2) && !decide (e.1 = d.1)) = (ds.drop (i + 1)).filter (fun e => decide (e.2 = d.2)) := by
      refine List.filter_congr fun e he => ?_
      rw [h1, List.pairwise_append] at hp
      have := (List.pairwise_cons.1 hp.2.1).1 e he
      have hn : ¬ e.1 = d.1 := fun h => this h.symm
      simp [hn]
    conv => rhs; rw [h1]
    rw [List.filter_append, List.filter_cons, e1, e2]
    simp

end Go.Proofs.Ytbcooikoaplhcaa
