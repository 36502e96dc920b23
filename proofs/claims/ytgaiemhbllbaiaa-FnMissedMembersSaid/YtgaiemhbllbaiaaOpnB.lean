/- Arguments of the laws: a code of bytes. No condition. -/
import Derived.Test.YtgaiemhbllbaiaaOpnD
import Derived.Test.YtgaiemhbllbaiaaG1
set_option linter.unusedSimpArgs false
set_option linter.unusedVariables false
namespace Go.Proofs.Ytgaiemhbllbaiaa
open Go Go.RowKit Go.ChangeShapes Go.WideShapes Go.Deep

/-- Rows of bytes. -/
theorem rows_B {P : Program} {a : TypeId} (h1 : P.underlying a = some (.int .u8)) : ∀ rs : List (List Value), (∀ r ∈ rs, rowV P [a] r) →
    ∃ bs : List Int, rs.map (List.map AV.v) = rowsB bs ∧ ∀ y ∈ bs, 0 ≤ y ∧ y ≤ 255
  | [], _ => ⟨[], rfl, by simp⟩
  | r :: rs, h => by
    obtain ⟨bs, h3, h4⟩ := rows_B h1 rs fun r hr => h r (by simp [hr])
    have hr := h r (by simp)
    match r, hr with
    | [x], hr =>
      simp only [rowV, and_true] at hr
      obtain ⟨n, rfl, hn⟩ := okV_u8 h1 hr
      refine ⟨n :: bs, by simp only [List.map_cons, h3]; rfl, fun d hd => ?_⟩
      rcases List.mem_cons.1 hd with rfl | hd
      · exact hn
      · exact h4 d hd
    | [], hr => simp [rowV] at hr
    | _ :: _ :: _, hr => simp [rowV] at hr
theorem Opn.bytes {P : Program} {W : World} {μ : Mu} {σ : Sto} {M : Nat} {a : TypeId} {v : Value} (h : Opn W μ σ M) (h1 : P.underlying a = some (.int .u8)) (hv : RowsV P W [a] v) :
    ∃ (μ' : Mu) (σ' : Sto) (x : AV) (bs : List Int), Opn W μ' σ' (M + 1) ∧ Sub μ μ' ∧ Vw σ σ' ∧ VRel μ' x v ∧ Sl σ' x 1 (rowsB bs) ∧ bs.length ≤ 9223372036854775807 ∧ ∀ y ∈ bs, 0 ≤ y ∧ y ≤ 255 := by
  obtain ⟨μ', σ', x, rs, h3, h4, h5, h6, h7, h8, h9⟩ := h.rows (by simp) hv
  obtain ⟨bs, h10, h11⟩ := rows_B h1 rs h9
  rw [h10] at h7
  refine ⟨μ', σ', x, bs, h3, h4, h5, h6, h7, ?_, h11⟩
  have := congrArg List.length h10
  simp [rowsB_len] at this
  omega
theorem u_u8 : Try.prog.underlying 5 = some (.int .u8) := by kernel_rfl
theorem ok_u8 : elemOk Try.prog 5 [5] := .inr ⟨rfl, .inl (.inr ⟨_, u_u8⟩)⟩
set_option maxRecDepth 100000 in
theorem open_code {H : Type} {enc : TypeId × Value → H} {W : World} {base : Nat} {spare : Nat → Bool} {held : Bool} {r : Reach} {b0 : Nat} {v : Value} {d : DataW H} {p : List MemPlace} (hval : Value.okWide Try.prog W r b0 22 v) (h : DataW.Trod enc Try.prog W base spare held 22 v d p) :
    RowsV Try.prog W [5] v := open_plain Try.underlying22 ok_u8 (by kernel_rfl) hval h
end Go.Proofs.Ytgaiemhbllbaiaa
