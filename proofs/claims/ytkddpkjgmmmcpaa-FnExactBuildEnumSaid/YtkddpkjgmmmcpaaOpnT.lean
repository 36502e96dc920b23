/- Arguments of the laws: items. No condition. -/
import Derived.Test.YtkddpkjgmmmcpaaOpnL
import Derived.Test.YtkddpkjgmmmcpaaI1
set_option linter.unusedSimpArgs false
set_option linter.unusedVariables false
namespace Go.Proofs.Ytkddpkjgmmmcpaa
open Go Go.RowKit Go.ChangeShapes Go.WideShapes Go.Deep

theorem rows_T {P : Program} {a b c : TypeId} (h1 : P.underlying a = some .string) (h2 : P.underlying b = some .bool) (h3 : P.underlying c = some (.int .i64)) : ∀ rs : List (List Value), (∀ r ∈ rs, rowV P [a, b, c] r) →
    ∃ ts : List It, rs.map (List.map AV.v) = rowsT ts ∧ ∀ t ∈ ts, t.1.size ≤ 9223372036854775807
  | [], _ => ⟨[], rfl, by simp⟩
  | r :: rs, h => by
    obtain ⟨ts, h4, h5⟩ := rows_T h1 h2 h3 rs fun r hr => h r (by simp [hr])
    have hr := h r (by simp)
    match r, hr with
    | [x, y, z], hr =>
      simp only [rowV, and_true] at hr
      obtain ⟨s, rfl, hs⟩ := okV_str h1 hr.1
      obtain ⟨q, rfl⟩ := okV_bool h2 hr.2.1
      obtain ⟨n, rfl, hn⟩ := okV_int h3 hr.2.2
      refine ⟨(s, q, n) :: ts, by simp only [List.map_cons, h4]; rfl, fun d hd => ?_⟩
      rcases List.mem_cons.1 hd with rfl | hd
      · exact hs
      · exact h5 d hd
    | [], hr => simp [rowV] at hr
    | [_], hr => simp [rowV] at hr
    | [_, _], hr => simp [rowV] at hr
    | _ :: _ :: _ :: _ :: _, hr => simp [rowV] at hr
theorem Opn.items {P : Program} {W : World} {μ : Mu} {σ : Sto} {M : Nat} {a b c : TypeId} {v : Value} (h : Opn W μ σ M) (h1 : P.underlying a = some .string) (h2 : P.underlying b = some .bool) (h3 : P.underlying c = some (.int .i64)) (hv : RowsV P W [a, b, c] v) :
    ∃ (μ' : Mu) (σ' : Sto) (x : AV) (ts : List It), Opn W μ' σ' (M + 1) ∧ Sub μ μ' ∧ Vw σ σ' ∧ VRel μ' x v ∧ Sl σ' x 3 (rowsT ts) ∧ ts.length ≤ 9223372036854775807 ∧ ∀ t ∈ ts, t.1.size ≤ 9223372036854775807 := by
  obtain ⟨μ', σ', x, rs, h4, h5, h6, h7, h8, h9, h10⟩ := h.rows (by simp) hv
  obtain ⟨ts, h11, h12⟩ := rows_T h1 h2 h3 rs h10
  rw [h11] at h8
  refine ⟨μ', σ', x, ts, h4, h5, h6, h7, h8, ?_, h12⟩
  have := congrArg List.length h11
  simp [rowsT_len] at this
  omega
theorem ok_lItem : elemOk Try.prog 110 [9, 4, 3] := by
  refine .inl ⟨_, Try.underlying110, rfl, fun j f hj => ?_⟩
  match j, hj with
  | 0, hj => cases hj; exact ⟨rfl, by kernel_rfl, .inr u_str⟩
  | 1, hj => cases hj; exact ⟨rfl, by kernel_rfl, .inl (.inl u_bool)⟩
  | 2, hj => cases hj; exact ⟨rfl, by kernel_rfl, .inl (.inr ⟨_, u_int⟩)⟩
  | n + 3, hj => simp at hj
set_option maxRecDepth 100000 in
theorem open_lItems {H : Type} {enc : TypeId × Value → H} {W : World} {base : Nat} {spare : Nat → Bool} {held : Bool} {r : Reach} {b0 : Nat} {v : Value} {d : DataW H} {p : List MemPlace} (hval : Value.okWide Try.prog W r b0 71 v) (h : DataW.Trod enc Try.prog W base spare held 71 v d p) :
    RowsV Try.prog W [9, 4, 3] v := open_plain Try.underlying71 ok_lItem (by kernel_rfl) hval h
end Go.Proofs.Ytkddpkjgmmmcpaa
