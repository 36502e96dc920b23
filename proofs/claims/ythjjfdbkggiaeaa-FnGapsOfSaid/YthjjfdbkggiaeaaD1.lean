/- Blocks of definitions. No condition. -/
import Derived.Test.YthjjfdbkggiaeaaC4
set_option linter.unusedSimpArgs false
set_option linter.unusedVariables false
namespace Go.Proofs.Ythjjfdbkggiaeaa
open Go Go.RowKit
abbrev nilA : AV := .sl 0 0 0 (some 0) 0
abbrev blkE (x : AV) : Blk := ⟨25, 1, [[x]], true⟩
abbrev blkD (ds : List Df) : Blk := ⟨33, 2, rowsD ds, true⟩
theorem flatD (ds : List Df) : flatB (blkD ds) := by
  intro e he v hv
  simp only [rowsD, List.mem_map] at he
  obtain ⟨d, _, rfl⟩ := he
  simp [rowD] at hv
  rcases hv with rfl | rfl <;> rfl
def renD (ds : List Df) (i : Nat) (t : ByteArray) : List Df := ds.modify i fun d => (t, d.2)
theorem rowsD_ren (ds : List Df) (i : Nat) (h : i < ds.length) (t : ByteArray) : rowsD (renD ds i t) = (rowsD ds).set i [.v (.string t), .v (.int .i64 ds[i].2)] := by
  unfold rowsD renD
  rw [List.modify_eq_set, List.getElem?_eq_getElem h]
  simp [List.map_set, rowD]
theorem renD_len (ds : List Df) (i : Nat) (t : ByteArray) : (renD ds i t).length = ds.length := by simp [renD]
def valD (ds : List Df) (i : Nat) (v : Int) : List Df := ds.modify i fun d => (d.1, v)
theorem rowsD_val (ds : List Df) (i : Nat) (h : i < ds.length) (v : Int) : rowsD (valD ds i v) = (rowsD ds).set i [.v (.string ds[i].1), .v (.int .i64 v)] := by
  unfold rowsD valD
  rw [List.modify_eq_set, List.getElem?_eq_getElem h]
  simp [List.map_set, rowD]
theorem valD_len (ds : List Df) (i : Nat) (v : Int) : (valD ds i v).length = ds.length := by simp [valD]
theorem rowsD_at (ds : List Df) (i : Nat) (h : i < ds.length) : (rowsD ds)[i]? = some [.v (.string ds[i].1), .v (.int .i64 ds[i].2)] := by simp [rowsD, rowD, h]
theorem rowsD_snoc (ds : List Df) (s : ByteArray) (n : Int) : rowsD ds ++ [[.v (.string s), .v (.int .i64 n)]] = rowsD (ds ++ [(s, n)]) := by simp [rowsD, rowD]
theorem rowsD_take (ds : List Df) : (rowsD ds).take ds.length = rowsD ds := List.take_of_length_le (by rw [rowsD_len]; exact Nat.le_refl _)
end Go.Proofs.Ythjjfdbkggiaeaa
