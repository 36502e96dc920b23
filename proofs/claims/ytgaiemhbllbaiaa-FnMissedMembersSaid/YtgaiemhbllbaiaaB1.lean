/- Contracts: greatest and least values. No condition. -/
import Derived.Test.YtgaiemhbllbaiaaLC
set_option linter.unusedSimpArgs false
set_option linter.unusedVariables false
namespace Go.Proofs.Ytgaiemhbllbaiaa
open Go Go.RowKit

/-- The greatest, the least value, from a value on. -/
def gtV (ds : List Df) (m : Int) : Int := ds.foldl (fun m e => if m < e.2 then e.2 else m) m
def ltV (ds : List Df) (m : Int) : Int := ds.foldl (fun m e => if e.2 < m then e.2 else m) m
def grV (ds : List Df) (z : Int) : Int := match ds with
  | [] => z
  | d :: l => gtV l d.2
theorem gtV_snoc {ds : List Df} {k : Nat} (h : k < ds.length) (m : Int) : gtV (ds.take (k + 1)) m = if gtV (ds.take k) m < ds[k].2 then ds[k].2 else gtV (ds.take k) m := by
  unfold gtV
  rw [List.take_succ_eq_append_getElem h, List.foldl_append]
  rfl
theorem ltV_snoc {ds : List Df} {k : Nat} (h : k < ds.length) (m : Int) : ltV (ds.take (k + 1)) m = if ds[k].2 < ltV (ds.take k) m then ds[k].2 else ltV (ds.take k) m := by
  unfold ltV
  rw [List.take_succ_eq_append_getElem h, List.foldl_append]
  rfl
theorem grV_one {ds : List Df} (h : 0 < ds.length) (z : Int) : grV (ds.take 1) z = ds[0].2 := by
  match ds, h with
  | d :: l, _ => rfl
theorem grV_snoc {ds : List Df} {k : Nat} (h : k < ds.length) (hk : 0 < k) (z : Int) : grV (ds.take (k + 1)) z = if grV (ds.take k) z < ds[k].2 then ds[k].2 else grV (ds.take k) z := by
  match ds, k, hk with
  | d :: l, k + 1, _ =>
    simp only [List.length_cons] at h
    exact gtV_snoc (ds := l) (k := k) (by omega) d.2

def loV (ds : List Df) : Int := match ds with
  | [] => 0
  | d :: l => ltV l d.2
theorem gtV_head {ds : List Df} (h : 0 < ds.length) (z : Int) : gtV ds ds[0].2 = grV ds z := by
  match ds, h with
  | d :: l, _ => simp [gtV, grV]
theorem ltV_head {ds : List Df} (h : 0 < ds.length) : ltV ds ds[0].2 = loV ds := by
  match ds, h with
  | d :: l, _ => simp [ltV, loV]

theorem gtV_bd {lo hi : Int} : ∀ (ds : List Df) (m : Int), (∀ d ∈ ds, lo ≤ d.2 ∧ d.2 ≤ hi) → lo ≤ m ∧ m ≤ hi → lo ≤ gtV ds m ∧ gtV ds m ≤ hi
  | [], m, _, h => h
  | d :: l, m, hv, h => by
    have hd := hv d (by simp)
    exact gtV_bd l (if m < d.2 then d.2 else m) (fun e he => hv e (by simp [he])) (by split <;> omega)
theorem ltV_bd {lo hi : Int} : ∀ (ds : List Df) (m : Int), (∀ d ∈ ds, lo ≤ d.2 ∧ d.2 ≤ hi) → lo ≤ m ∧ m ≤ hi → lo ≤ ltV ds m ∧ ltV ds m ≤ hi
  | [], m, _, h => h
  | d :: l, m, hv, h => by
    have hd := hv d (by simp)
    exact ltV_bd l (if d.2 < m then d.2 else m) (fun e he => hv e (by simp [he])) (by split <;> omega)

end Go.Proofs.Ytgaiemhbllbaiaa
