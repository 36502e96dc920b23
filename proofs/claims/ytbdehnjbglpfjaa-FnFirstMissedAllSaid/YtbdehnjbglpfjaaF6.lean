/- Contracts of the generators of arguments: classes of flags. No condition. -/
import Derived.Test.YtbdehnjbglpfjaaF4
import Derived.Test.YtbdehnjbglpfjaaT4
set_option linter.unusedSimpArgs false
set_option linter.unusedVariables false
namespace Go.Proofs.Ytbdehnjbglpfjaa
open Go Go.RowKit

def DrewF (ν : Nat) (r : AV) (δ : Sto) : Prop := ∃ (ds : List Df) (bd : Int), Gd ds 13 ∧ -1 ≤ bd ∧ bd ≤ 4 ∧ r = .agg [.sl ν 0 ds.length none 2, .v (.int .i64 bd)] ∧ δ = upd noS ν (blkD ds)
def DrewFV (ν : Nat) (r : AV) (δ : Sto) : Prop := ∃ (ds : List Df) (bd v : Int), Gd ds 13 ∧ -1 ≤ bd ∧ bd ≤ 4 ∧ -4097 ≤ v ∧ v ≤ 4096 ∧ r = .tup [.agg [.sl ν 0 ds.length none 2, .v (.int .i64 bd)], .v (.int .i64 v)] ∧ δ = upd noS ν (blkD ds)
def DrewFVV (ν : Nat) (r : AV) (δ : Sto) : Prop := ∃ (ds : List Df) (bd v w : Int), Gd ds 13 ∧ -1 ≤ bd ∧ bd ≤ 4 ∧ -4097 ≤ v ∧ v ≤ 4096 ∧ -4097 ≤ w ∧ w ≤ 4096 ∧ r = .tup [.agg [.sl ν 0 ds.length none 2, .v (.int .i64 bd)], .v (.int .i64 v), .v (.int .i64 w)] ∧ δ = upd noS ν (blkD ds)
end Go.Proofs.Ytbdehnjbglpfjaa
