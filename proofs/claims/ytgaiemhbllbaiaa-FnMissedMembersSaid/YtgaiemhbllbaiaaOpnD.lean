/- Arguments of the laws: structs of cells, slices of definitions. No condition. -/
import Derived.Test.YtgaiemhbllbaiaaLB
import Derived.Test.YtgaiemhbllbaiaaLC
set_option linter.unusedSimpArgs false
set_option linter.unusedVariables false
namespace Go.Proofs.Ytgaiemhbllbaiaa
open Go Go.RowKit Go.ChangeShapes Go.WideShapes Go.Deep

section
variable {H : Type} {enc : TypeId × Value → H} {P : Program} {W : World} {base : Nat} {spare : Nat → Bool} {held : Bool}
theorem open_fields {r : Reach} {b0 : Nat} {t : TypeId} {fs : Array Field} {v : Value} {d : DataW H} {p : List MemPlace} (hu : P.underlying t = some (.struct fs)) (hC : P.cellsOf t = fs.size) (hf : ∀ (j : Nat) (f : Field), fs[j]? = some f → f.offset = j ∧ P.cellsOf f.type = 1)
    (hval : Value.okWide P W r b0 t v) (h : DataW.Trod enc P W base spare held t v d p) :
    ∃ cs : List Value, v = .agg cs.toArray ∧ cs.length = fs.size ∧ ∀ (j : Nat) (f : Field), fs[j]? = some f → ∃ (u : Value) (n : Nat) (x : DataW H × List MemPlace), cs[j]? = some u ∧ DataW.trod enc P W base spare held n f.type [u] = some x := by
  obtain ⟨cs, rfl, hsz⟩ := okWide_struct hu hval
  obtain ⟨fuel, hfu⟩ := h
  obtain ⟨xs, m, _, _, hl, hxl, hg⟩ := DataW.trod_struct hu hfu
  have hcl : cs.toList.length = fs.size := by simp [hsz, hC]
  refine ⟨cs.toList, by simp, hcl, fun j f hj => ?_⟩
  obtain ⟨ho, hk⟩ := hf j f hj
  have hjl : j < fs.size := (Array.getElem?_eq_some_iff.1 hj).1
  have := hg j f hj
  rw [List.getElem?_eq_getElem (by omega), ho, hk] at this
  have e : (Value.agg cs).cells.toList = cs.toList := by simp [Value.cells]
  rw [e, List.drop_eq_getElem_cons (by omega)] at this
  exact ⟨_, _, _, List.getElem?_eq_getElem (by omega), by simpa using this⟩
theorem open_plain {r : Reach} {b0 : Nat} {t e : TypeId} {ts : List TypeId} {v : Value} {d : DataW H} {p : List MemPlace} (hu : P.underlying t = some (.slice e)) (he : elemOk P e ts) (hC : P.cellsOf e = ts.length)
    (hval : Value.okWide P W r b0 t v) (h : DataW.Trod enc P W base spare held t v d p) : RowsV P W ts v := by
  obtain ⟨a, len, cap, rfl⟩ := okWide_slice hu hval
  obtain ⟨fuel, hfu⟩ := h
  exact rows_of hu he hC (by simpa [Value.cells] using hfu)
end

/-- Rows of definitions. -/
theorem rows_D {P : Program} {a b : TypeId} (h1 : P.underlying a = some .string) (h2 : P.underlying b = some (.int .i64)) : ∀ rs : List (List Value), (∀ r ∈ rs, rowV P [a, b] r) →
    ∃ ds : List Df, rs.map (List.map AV.v) = rowsD ds ∧ ∀ d ∈ ds, d.1.size ≤ 9223372036854775807 ∧ -9223372036854775808 ≤ d.2 ∧ d.2 ≤ 9223372036854775807
  | [], _ => ⟨[], rfl, by simp⟩
  | r :: rs, h => by
    obtain ⟨ds, h3, h4⟩ := rows_D h1 h2 rs fun r hr => h r (by simp [hr])
    have hr := h r (by simp)
    match r, hr with
    | [x, y], hr =>
      simp only [rowV, and_true] at hr
      obtain ⟨s, rfl, hs⟩ := okV_str h1 hr.1
      obtain ⟨n, rfl, hn⟩ := okV_int h2 hr.2
      refine ⟨(s, n) :: ds, by simp only [List.map_cons, h3]; rfl, fun d hd => ?_⟩
      rcases List.mem_cons.1 hd with rfl | hd
      · exact ⟨hs, hn⟩
      · exact h4 d hd
    | [], hr => simp [rowV] at hr
    | [_], hr => simp [rowV] at hr
    | _ :: _ :: _ :: _, hr => simp [rowV] at hr
theorem Opn.defs {P : Program} {W : World} {μ : Mu} {σ : Sto} {M : Nat} {a b : TypeId} {v : Value} (h : Opn W μ σ M) (h1 : P.underlying a = some .string) (h2 : P.underlying b = some (.int .i64)) (hv : RowsV P W [a, b] v) :
    ∃ (μ' : Mu) (σ' : Sto) (x : AV) (ds : List Df), Opn W μ' σ' (M + 1) ∧ Sub μ μ' ∧ Vw σ σ' ∧ VRel μ' x v ∧ Sl σ' x 2 (rowsD ds) ∧ ds.length ≤ 9223372036854775807 ∧ (∀ d ∈ ds, d.1.size ≤ 9223372036854775807) ∧ ∀ d ∈ ds, -9223372036854775808 ≤ d.2 ∧ d.2 ≤ 9223372036854775807 := by
  obtain ⟨μ', σ', x, rs, h3, h4, h5, h6, h7, h8, h9⟩ := h.rows (by simp) hv
  obtain ⟨ds, h10, h11⟩ := rows_D h1 h2 rs h9
  rw [h10] at h7
  refine ⟨μ', σ', x, ds, h3, h4, h5, h6, h7, ?_, fun d hd => (h11 d hd).1, fun d hd => (h11 d hd).2⟩
  have := congrArg List.length h10
  simp [rowsD_len] at this
  omega
theorem vr_nil {μ : Mu} : VRels μ [] [] := by simp only [VRels]
theorem vr_cons {μ : Mu} {x : AV} {c : Value} {l : List AV} {m : List Value} (h : VRel μ x c) (h2 : VRels μ l m) : VRels μ (x :: l) (c :: m) := by
  simp only [VRels]
  exact ⟨h, h2⟩
theorem vr_agg {μ : Mu} {l : List AV} {m : List Value} (h : VRels μ l m) : VRel μ (.agg l) (.agg m.toArray) := by
  simp only [VRel]
  exact ⟨m, rfl, h⟩
theorem vr_v {μ : Mu} (v : Value) : VRel μ (.v v) v := by simp only [VRel]
theorem own : ownKnob Try.prog.godebug = none := by kernel_rfl
theorem laidOut : laidOutB Try.prog = true := by kernel_rfl
theorem u_str : Try.prog.underlying 9 = some .string := by kernel_rfl
theorem u_int : Try.prog.underlying 3 = some (.int .i64) := by kernel_rfl
theorem u_bool : Try.prog.underlying 4 = some .bool := by kernel_rfl
theorem ok_lDef : elemOk Try.prog 117 [9, 3] := by
  refine .inl ⟨_, Try.underlying117, rfl, fun j f hj => ?_⟩
  match j, hj with
  | 0, hj => cases hj; exact ⟨rfl, by kernel_rfl, .inr u_str⟩
  | 1, hj => cases hj; exact ⟨rfl, by kernel_rfl, .inl (.inr ⟨_, u_int⟩)⟩
  | n + 2, hj => simp at hj
set_option maxRecDepth 100000 in
theorem open_lEnum {H : Type} {enc : TypeId × Value → H} {W : World} {base : Nat} {spare : Nat → Bool} {held : Bool} {r : Reach} {b0 : Nat} {v : Value} {d : DataW H} {p : List MemPlace} (hval : Value.okWide Try.prog W r b0 43 v) (h : DataW.Trod enc Try.prog W base spare held 43 v d p) :
    ∃ c, v = .agg #[c] ∧ RowsV Try.prog W [9, 3] c := by
  have key := fun hf => open_fields Try.underlying43 (by kernel_rfl) hf hval h
  obtain ⟨cs, rfl, hcl, hc⟩ := key (by
    intro j f hj
    match j, hj with
    | 0, hj => cases hj; exact ⟨rfl, by kernel_rfl⟩
    | n + 1, hj => simp at hj)
  obtain ⟨c0, n0, x0, hc0, hr0⟩ := hc 0 _ rfl
  match cs, hcl, hc0 with
  | [c], _, hc0 =>
    cases hc0
    exact ⟨_, rfl, rows_of Try.underlying41 ok_lDef (by kernel_rfl) hr0⟩
end Go.Proofs.Ytgaiemhbllbaiaa
