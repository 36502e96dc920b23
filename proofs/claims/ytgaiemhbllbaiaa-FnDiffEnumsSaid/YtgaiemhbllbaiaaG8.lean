/- Contracts of the generators: two enumerations, with a name. No condition. -/
import Derived.Test.YtgaiemhbllbaiaaG5
import Derived.Test.YtgaiemhbllbaiaaG7
set_option linter.unusedSimpArgs false
set_option linter.unusedVariables false
namespace Go.Proofs.Ytgaiemhbllbaiaa
open Go Go.RowKit

theorem Bd.add {K : Nat} {s : Sto} {k : Blk} (h : Bd K s) (hk : ∀ e ∈ k.es, ∀ v ∈ e, ∀ n ∈ nms v, n < K + 1) : Bd (K + 1) (upd s K k) := fun b kb hb => by
  by_cases e : b = K
  · subst e
    rw [upd_eq] at hb
    cases hb
    exact ⟨by omega, hk⟩
  · rw [upd_ne _ _ _ _ e] at hb
    obtain ⟨h1, h2⟩ := h b kb hb
    exact ⟨by omega, fun e he v hv n hn => Nat.lt_succ_of_lt (h2 e he v hv n hn)⟩
def DrewEE (ν : Nat) (r : AV) (δ : Sto) : Prop := ∃ da db : List Df, Gd da 25 ∧ Gd db 28 ∧ r = .tup [.agg [.sl ν 0 da.length none 2], .agg [.sl (ν + 1) 0 db.length none 2]] ∧ δ = upd (upd noS ν (blkD da)) (ν + 1) (blkD db)
def DrewEES (ν : Nat) (r : AV) (δ : Sto) : Prop := ∃ (da db : List Df) (nm : ByteArray), Gd da 25 ∧ Gd db 28 ∧ nm.size ≤ 7 ∧ r = .tup [.agg [.sl ν 0 da.length none 2], .agg [.sl (ν + 1) 0 db.length none 2], .v (.string nm)] ∧ δ = upd (upd noS ν (blkD da)) (ν + 1) (blkD db)

end Go.Proofs.Ytgaiemhbllbaiaa
