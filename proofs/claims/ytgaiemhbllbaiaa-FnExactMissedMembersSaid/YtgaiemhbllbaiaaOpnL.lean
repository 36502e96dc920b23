/- Arguments of the laws: numbers, lists of numbers, of texts, of definitions. No condition. -/
import Derived.Test.YtgaiemhbllbaiaaOpnD
import Derived.Test.YtgaiemhbllbaiaaB2
set_option linter.unusedSimpArgs false
set_option linter.unusedVariables false
namespace Go.Proofs.Ytgaiemhbllbaiaa
open Go Go.RowKit Go.ChangeShapes Go.WideShapes Go.Deep

set_option maxRecDepth 100000 in
theorem open_i64 {H : Type} {enc : TypeId × Value → H} {W : World} {base : Nat} {spare : Nat → Bool} {held : Bool} {r : Reach} {b0 : Nat} {v : Value} {d : DataW H} {p : List MemPlace} (hval : Value.okWide Try.prog W r b0 3 v) (h : DataW.Trod enc Try.prog W base spare held 3 v d p) :
    ∃ n, v = .int .i64 n ∧ -9223372036854775808 ≤ n ∧ n ≤ 9223372036854775807 := by
  obtain ⟨n, rfl, _, _, hw⟩ := open_int u_int hval h
  simp [Lit.wf, IntKind.min, IntKind.max, IntKind.signed, IntKind.bits] at hw
  exact ⟨n, rfl, hw.1, hw.2⟩
theorem rows_I {P : Program} {a : TypeId} (h1 : P.underlying a = some (.int .i64)) : ∀ rs : List (List Value), (∀ r ∈ rs, rowV P [a] r) →
    ∃ ns : List Int, rs.map (List.map AV.v) = rowsI ns ∧ ∀ n ∈ ns, -9223372036854775808 ≤ n ∧ n ≤ 9223372036854775807
  | [], _ => ⟨[], rfl, by simp⟩
  | r :: rs, h => by
    obtain ⟨ns, h3, h4⟩ := rows_I h1 rs fun r hr => h r (by simp [hr])
    have hr := h r (by simp)
    match r, hr with
    | [x], hr =>
      simp only [rowV, and_true] at hr
      obtain ⟨n, rfl, hn⟩ := okV_int h1 hr
      refine ⟨n :: ns, by simp only [List.map_cons, h3]; rfl, fun d hd => ?_⟩
      rcases List.mem_cons.1 hd with rfl | hd
      · exact hn
      · exact h4 d hd
    | [], hr => simp [rowV] at hr
    | _ :: _ :: _, hr => simp [rowV] at hr
theorem Opn.ints {P : Program} {W : World} {μ : Mu} {σ : Sto} {M : Nat} {a : TypeId} {v : Value} (h : Opn W μ σ M) (h1 : P.underlying a = some (.int .i64)) (hv : RowsV P W [a] v) :
    ∃ (μ' : Mu) (σ' : Sto) (x : AV) (ns : List Int), Opn W μ' σ' (M + 1) ∧ Sub μ μ' ∧ Vw σ σ' ∧ VRel μ' x v ∧ Sl σ' x 1 (rowsI ns) ∧ ns.length ≤ 9223372036854775807 ∧ ∀ n ∈ ns, -9223372036854775808 ≤ n ∧ n ≤ 9223372036854775807 := by
  obtain ⟨μ', σ', x, rs, h3, h4, h5, h6, h7, h8, h9⟩ := h.rows (by simp) hv
  obtain ⟨ns, h10, h11⟩ := rows_I h1 rs h9
  rw [h10] at h7
  refine ⟨μ', σ', x, ns, h3, h4, h5, h6, h7, ?_, h11⟩
  have := congrArg List.length h10
  simp [rowsI_len] at this
  omega
theorem rows_S {P : Program} {a : TypeId} (h1 : P.underlying a = some .string) : ∀ rs : List (List Value), (∀ r ∈ rs, rowV P [a] r) →
    ∃ ts : List ByteArray, rs.map (List.map AV.v) = rowsS ts ∧ ∀ t ∈ ts, t.size ≤ 9223372036854775807
  | [], _ => ⟨[], rfl, by simp⟩
  | r :: rs, h => by
    obtain ⟨ts, h3, h4⟩ := rows_S h1 rs fun r hr => h r (by simp [hr])
    have hr := h r (by simp)
    match r, hr with
    | [x], hr =>
      simp only [rowV, and_true] at hr
      obtain ⟨n, rfl, hn⟩ := okV_str h1 hr
      refine ⟨n :: ts, by simp only [List.map_cons, h3]; rfl, fun d hd => ?_⟩
      rcases List.mem_cons.1 hd with rfl | hd
      · exact hn
      · exact h4 d hd
    | [], hr => simp [rowV] at hr
    | _ :: _ :: _, hr => simp [rowV] at hr
theorem Opn.strs {P : Program} {W : World} {μ : Mu} {σ : Sto} {M : Nat} {a : TypeId} {v : Value} (h : Opn W μ σ M) (h1 : P.underlying a = some .string) (hv : RowsV P W [a] v) :
    ∃ (μ' : Mu) (σ' : Sto) (x : AV) (ts : List ByteArray), Opn W μ' σ' (M + 1) ∧ Sub μ μ' ∧ Vw σ σ' ∧ VRel μ' x v ∧ Sl σ' x 1 (rowsS ts) ∧ ts.length ≤ 9223372036854775807 ∧ ∀ t ∈ ts, t.size ≤ 9223372036854775807 := by
  obtain ⟨μ', σ', x, rs, h3, h4, h5, h6, h7, h8, h9⟩ := h.rows (by simp) hv
  obtain ⟨ts, h10, h11⟩ := rows_S h1 rs h9
  rw [h10] at h7
  refine ⟨μ', σ', x, ts, h3, h4, h5, h6, h7, ?_, h11⟩
  have := congrArg List.length h10
  simp [rowsS_len] at this
  omega
set_option maxRecDepth 100000 in
theorem open_lInts {H : Type} {enc : TypeId × Value → H} {W : World} {base : Nat} {spare : Nat → Bool} {held : Bool} {r : Reach} {b0 : Nat} {v : Value} {d : DataW H} {p : List MemPlace} (hval : Value.okWide Try.prog W r b0 97 v) (h : DataW.Trod enc Try.prog W base spare held 97 v d p) :
    RowsV Try.prog W [3] v := open_plain Try.underlying97 (.inr ⟨rfl, .inl (.inr ⟨_, u_int⟩)⟩) (by kernel_rfl) hval h
set_option maxRecDepth 100000 in
theorem open_lStrs {H : Type} {enc : TypeId × Value → H} {W : World} {base : Nat} {spare : Nat → Bool} {held : Bool} {r : Reach} {b0 : Nat} {v : Value} {d : DataW H} {p : List MemPlace} (hval : Value.okWide Try.prog W r b0 51 v) (h : DataW.Trod enc Try.prog W base spare held 51 v d p) :
    RowsV Try.prog W [9] v := open_plain Try.underlying51 (.inr ⟨rfl, .inr u_str⟩) (by kernel_rfl) hval h
set_option maxRecDepth 100000 in
theorem open_lDefs {H : Type} {enc : TypeId × Value → H} {W : World} {base : Nat} {spare : Nat → Bool} {held : Bool} {r : Reach} {b0 : Nat} {v : Value} {d : DataW H} {p : List MemPlace} (hval : Value.okWide Try.prog W r b0 41 v) (h : DataW.Trod enc Try.prog W base spare held 41 v d p) :
    RowsV Try.prog W [9, 3] v := open_plain Try.underlying41 ok_lDef (by kernel_rfl) hval h
end Go.Proofs.Ytgaiemhbllbaiaa
