/- Contracts of the generators: enumerations. No condition. -/
import Derived.Test.YtbdehnjbglpfjaaG3
set_option linter.unusedSimpArgs false
set_option linter.unusedVariables false
namespace Go.Proofs.Ytbdehnjbglpfjaa
open Go Go.RowKit

/-- An enumeration that a generator hands back: at most m definitions, at most N picks. -/
def GotE (ν rb : Nat) (x : AV) (p : Int) (m N : Nat) (r : AV) (δ : Sto) : Prop := ∃ (ds : List Df) (q : Int), Gd ds m ∧ p ≤ q ∧ q ≤ p + N ∧ r = .agg [.sl ν 0 ds.length none 2] ∧ δ = upd (upd noS rb (rdB x q)) ν (blkD ds)

theorem Gd.modify {ds : List Df} {m i : Nat} {f : Df → Df} (h : Gd ds m) (hf : ∀ d ∈ ds, (f d).1.size ≤ 7 ∧ -4096 ≤ (f d).2 ∧ (f d).2 ≤ 4096) : Gd (ds.modify i f) m := by
  have key : ∀ d ∈ ds.modify i f, d.1.size ≤ 7 ∧ -4096 ≤ d.2 ∧ d.2 ≤ 4096 := fun d hd => by
    rw [List.modify_eq_set] at hd
    cases hi : ds[i]? with
    | none => 
      rw [List.set_eq_of_length_le (by simpa using hi)] at hd
      exact ⟨h.sz d hd, h.lo d hd, h.hi d hd⟩
    | some e =>
      rw [hi] at hd
      rcases List.mem_or_eq_of_mem_set hd with hd | rfl
      · exact ⟨h.sz d hd, h.lo d hd, h.hi d hd⟩
      · exact hf e (List.mem_of_getElem? hi)
  exact ⟨by simpa using h.len, fun d hd => (key d hd).1, fun d hd => (key d hd).2.1, fun d hd => (key d hd).2.2⟩
theorem Gd.ren {ds : List Df} {m i : Nat} (h : Gd ds m) {s : ByteArray} (hs : s.size ≤ 7) : Gd (renD ds i s) m := h.modify fun d hd => ⟨hs, h.lo d hd, h.hi d hd⟩
theorem Gd.val {ds : List Df} {m i : Nat} (h : Gd ds m) {v : Int} (h1 : -4096 ≤ v) (h2 : v ≤ 4096) : Gd (valD ds i v) m := h.modify fun d hd => ⟨h.sz d hd, h1, h2⟩

def z13 : List Df := List.replicate 13 (ByteArray.empty, 0)
theorem rowsD_z13 (ds : List Df) : rowsD ds ++ [[.v (.string ByteArray.empty), .v (.int .i64 0)], [.v (.string ByteArray.empty), .v (.int .i64 0)], [.v (.string ByteArray.empty), .v (.int .i64 0)], [.v (.string ByteArray.empty), .v (.int .i64 0)], [.v (.string ByteArray.empty), .v (.int .i64 0)], [.v (.string ByteArray.empty), .v (.int .i64 0)], [.v (.string ByteArray.empty), .v (.int .i64 0)], [.v (.string ByteArray.empty), .v (.int .i64 0)], [.v (.string ByteArray.empty), .v (.int .i64 0)], [.v (.string ByteArray.empty), .v (.int .i64 0)], [.v (.string ByteArray.empty), .v (.int .i64 0)], [.v (.string ByteArray.empty), .v (.int .i64 0)], [.v (.string ByteArray.empty), .v (.int .i64 0)]] = rowsD (ds ++ z13) := by
  unfold rowsD
  rw [List.map_append]
  rfl
theorem Gd.z13 {ds : List Df} {m : Nat} (h : Gd ds m) : Gd (ds ++ Go.Proofs.Ytbdehnjbglpfjaa.z13) (m + 13) := by
  have key : ∀ d ∈ ds ++ Go.Proofs.Ytbdehnjbglpfjaa.z13, d.1.size ≤ 7 ∧ -4096 ≤ d.2 ∧ d.2 ≤ 4096 := fun d hd => by
    rcases List.mem_append.1 hd with hd | hd
    · exact ⟨h.sz d hd, h.lo d hd, h.hi d hd⟩
    · rw [(List.mem_replicate.1 hd).2]; decide
  have := h.len
  exact ⟨by simp [Go.Proofs.Ytbdehnjbglpfjaa.z13]; omega, fun d hd => (key d hd).1, fun d hd => (key d hd).2.1, fun d hd => (key d hd).2.2⟩

end Go.Proofs.Ytbdehnjbglpfjaa
