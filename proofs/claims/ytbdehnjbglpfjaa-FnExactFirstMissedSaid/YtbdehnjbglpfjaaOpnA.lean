/- Arguments of the laws: arms, lists of arms. No condition. -/
import Derived.Test.YtbdehnjbglpfjaaOpnL
import Derived.Test.YtbdehnjbglpfjaaA2
set_option linter.unusedSimpArgs false
set_option linter.unusedVariables false
namespace Go.Proofs.Ytbdehnjbglpfjaa
open Go Go.RowKit Go.ChangeShapes Go.WideShapes Go.Deep

set_option maxRecDepth 100000 in
theorem open_lArm {H : Type} {enc : TypeId × Value → H} {W : World} {base : Nat} {spare : Nat → Bool} {held : Bool} {r : Reach} {b0 : Nat} {v : Value} {d : DataW H} {p : List MemPlace} (hval : Value.okWide Try.prog W r b0 38 v) (h : DataW.Trod enc Try.prog W base spare held 38 v d p) :
    ∃ (a b : Int), v = .agg #[.int .i64 a, .int .i64 b] ∧ (-9223372036854775808 ≤ a ∧ a ≤ 9223372036854775807) ∧ -9223372036854775808 ≤ b ∧ b ≤ 9223372036854775807 := by
  have key := fun hf => open_fields Try.underlying38 (by kernel_rfl) hf hval h
  obtain ⟨cs, rfl, hcl, hc⟩ := key (by
    intro j f hj
    match j, hj with
    | 0, hj => cases hj; exact ⟨rfl, by kernel_rfl⟩
    | 1, hj => cases hj; exact ⟨rfl, by kernel_rfl⟩
    | n + 2, hj => simp at hj)
  obtain ⟨c0, n0, x0, hc0, hr0⟩ := hc 0 _ rfl
  obtain ⟨c1, n1, x1, hc1, hr1⟩ := hc 1 _ rfl
  match cs, hcl, hc0, hc1 with
  | [c, e], _, hc0, hc1 =>
    cases hc0
    cases hc1
    obtain ⟨w, hw, hok⟩ := cell_okV (.inl (.inr ⟨_, u_int⟩)) hr0
    cases hw
    obtain ⟨m, rfl, hm⟩ := okV_int u_int hok
    obtain ⟨w, hw, hok⟩ := cell_okV (.inl (.inr ⟨_, u_int⟩)) hr1
    cases hw
    obtain ⟨n, rfl, hn⟩ := okV_int u_int hok
    exact ⟨m, n, rfl, hm, hn⟩
theorem rows_A {P : Program} {a b : TypeId} (h1 : P.underlying a = some (.int .i64)) (h2 : P.underlying b = some (.int .i64)) : ∀ rs : List (List Value), (∀ r ∈ rs, rowV P [a, b] r) →
    ∃ l : List Ar, rs.map (List.map AV.v) = rowsA l ∧ ∀ e ∈ l, (-9223372036854775808 ≤ e.1 ∧ e.1 ≤ 9223372036854775807) ∧ -9223372036854775808 ≤ e.2 ∧ e.2 ≤ 9223372036854775807
  | [], _ => ⟨[], rfl, by simp⟩
  | r :: rs, h => by
    obtain ⟨l, h3, h4⟩ := rows_A h1 h2 rs fun r hr => h r (by simp [hr])
    have hr := h r (by simp)
    match r, hr with
    | [x, y], hr =>
      simp only [rowV, and_true] at hr
      obtain ⟨m, rfl, hm⟩ := okV_int h1 hr.1
      obtain ⟨n, rfl, hn⟩ := okV_int h2 hr.2
      refine ⟨(m, n) :: l, by simp only [List.map_cons, h3]; rfl, fun d hd => ?_⟩
      rcases List.mem_cons.1 hd with rfl | hd
      · exact ⟨hm, hn⟩
      · exact h4 d hd
    | [], hr => simp [rowV] at hr
    | [_], hr => simp [rowV] at hr
    | _ :: _ :: _ :: _, hr => simp [rowV] at hr
theorem Opn.arms2 {P : Program} {W : World} {μ : Mu} {σ : Sto} {M : Nat} {a b : TypeId} {v : Value} (h : Opn W μ σ M) (h1 : P.underlying a = some (.int .i64)) (h2 : P.underlying b = some (.int .i64)) (hv : RowsV P W [a, b] v) :
    ∃ (μ' : Mu) (σ' : Sto) (x : AV) (l : List Ar), Opn W μ' σ' (M + 1) ∧ Sub μ μ' ∧ Vw σ σ' ∧ VRel μ' x v ∧ Sl σ' x 2 (rowsA l) ∧ l.length ≤ 9223372036854775807 ∧ ∀ e ∈ l, (-9223372036854775808 ≤ e.1 ∧ e.1 ≤ 9223372036854775807) ∧ -9223372036854775808 ≤ e.2 ∧ e.2 ≤ 9223372036854775807 := by
  obtain ⟨μ', σ', x, rs, h3, h4, h5, h6, h7, h8, h9⟩ := h.rows (by simp) hv
  obtain ⟨l, h10, h11⟩ := rows_A h1 h2 rs h9
  rw [h10] at h7
  refine ⟨μ', σ', x, l, h3, h4, h5, h6, h7, ?_, h11⟩
  have := congrArg List.length h10
  simp [rowsA_len] at this
  omega
theorem Opn.arms {P : Program} {W : World} {μ : Mu} {σ : Sto} {M : Nat} {a : TypeId} {v : Value} (h : Opn W μ σ M) (h1 : P.underlying a = some (.int .i64)) (hv : RowsV P W [a, a] v) :
    ∃ (μ' : Mu) (σ' : Sto) (x : AV) (l : List Ar), Opn W μ' σ' (M + 1) ∧ Sub μ μ' ∧ Vw σ σ' ∧ VRel μ' x v ∧ Sl σ' x 2 (rowsA l) ∧ l.length ≤ 9223372036854775807 ∧ ∀ e ∈ l, (-9223372036854775808 ≤ e.1 ∧ e.1 ≤ 9223372036854775807) ∧ -9223372036854775808 ≤ e.2 ∧ e.2 ≤ 9223372036854775807 := h.arms2 h1 h1 hv
theorem ok_lArm : elemOk Try.prog 38 [3, 3] := by
  refine .inl ⟨_, Try.underlying38, rfl, fun j f hj => ?_⟩
  match j, hj with
  | 0, hj => cases hj; exact ⟨rfl, by kernel_rfl, .inl (.inr ⟨_, u_int⟩)⟩
  | 1, hj => cases hj; exact ⟨rfl, by kernel_rfl, .inl (.inr ⟨_, u_int⟩)⟩
  | n + 2, hj => simp at hj
set_option maxRecDepth 100000 in
theorem open_lArms {H : Type} {enc : TypeId × Value → H} {W : World} {base : Nat} {spare : Nat → Bool} {held : Bool} {r : Reach} {b0 : Nat} {v : Value} {d : DataW H} {p : List MemPlace} (hval : Value.okWide Try.prog W r b0 53 v) (h : DataW.Trod enc Try.prog W base spare held 53 v d p) :
    RowsV Try.prog W [3, 3] v := open_plain Try.underlying53 ok_lArm (by kernel_rfl) hval h
end Go.Proofs.Ytbdehnjbglpfjaa
