/- A table of a package: an element of it loaded in a walk; Go's count of trailing zeros for powers of two. The condition: the table's cells read so, and nothing writes them (Side). -/
import Derived.Test.YtgaiemhbllbaiaaDoorLB
import Derived.Test.YtgaiemhbllbaiaaDoorF1
set_option linter.unusedSimpArgs false
set_option linter.unusedVariables false
namespace Go.Proofs.YtgaiemhbllbaiaaDoor
open Go Go.RowKit

/-- Cells of a package variable. -/
def TabOk (g : Nat) (l : List (Nat × Value)) (w : World) : Prop := ∀ p ∈ l, w.cell? ⟨g, p.1, none⟩ = some p.2
theorem TabOk.keep {g : Nat} {l : List (Nat × Value)} {w w' : World} (h : TabOk g l w) (hk : w'.heap[g]? = w.heap[g]?) : TabOk g l w' := fun p hp => (World.cell?_of_block (a := ⟨g, p.1, none⟩) hk).trans (h p hp)
abbrev tabSide (g : Nat) (l : List (Nat × Value)) : Side :=
  ⟨fun B w0 X => g < B ∧ ¬ X g ∧ TabOk g l w0, fun B w0 X B' w X' h hk hB hX => ⟨by have := h.1; omega, hX g h.1 h.2.1, h.2.2.keep (hk.block g h.1 h.2.1)⟩⟩
/-- What stands besides the store says what the cells read as. -/
def TabHas [Side] (g : Nat) (l : List (Nat × Value)) : Prop := ∀ (B : Nat) (w0 : World) (X : Nat → Prop), Side.ok B w0 X → g < B ∧ ¬ X g ∧ TabOk g l w0

section
variable {P : Program} {N K : Nat} {τ : Tm} {σ : Sto} {M : Nat}
/-- A region in which one element of the table is loaded. -/
theorem AWP.table [Side] (g : Nat) (l : List (Nat × Value)) (hS : TabHas g l) (pre post : List Oper) (o1 o2 : Oper) {di dl jt : Tmp} {t te : TypeId} {len : Nat} {id : Nat} {ops : Array Oper} {Q : Exit → Tm → Sto → Nat → Prop}
    (hd : (ops.toList.all fun o => match o.dst with | some d => decide (d < N) | none => true) = true) (hops : ops.toList = pre ++ (o1 :: o2 :: post))
    (h1 : o1.op = .indexAddr t (.global g) (.tmp jt) ∧ o1.dst = some di ∧ o1.guard = none) (h2 : o2.op = .load te (.tmp di) ∧ o2.dst = some dl ∧ o2.guard = none)
    (ht : P.underlying t = some (.array len te)) (hz : szO P te = some 1) (ha : aggO P te = some false)
    (h : ∀ KK : Tm → Sto → Nat → Prop, (∀ τ' σ' M', Q .normal τ' σ' M' → KK τ' σ' M') → aOps P (ops.toList.map (·.dst)) pre (fun τ σ M => ∃ (k : IntKind) (j : Nat) (v : Value), get τ jt = .v (.int k j) ∧ j < len ∧ (j, v) ∈ l ∧ aOps P (ops.toList.map (·.dst)) post KK ((dl, .v v) :: (di, .v (.pointer (some ⟨g, j, none⟩))) :: τ) σ M) τ σ M) :
    AWP P N K (.region id ops false) Q τ σ M := by
  intro B w0 X E a w μ hs
  refine wp_region_list ?_
  have hd' : ∀ o ∈ ops.toList, ∀ d, o.dst = some d → d < N := fun o ho d hdd => by
    have := List.all_eq_true.1 hd o ho
    rw [hdd] at this
    simpa using this
  have hpre : ∀ o ∈ pre, ∀ d, o.dst = some d → d < N := fun o ho => hd' o (by rw [hops]; simp [ho])
  have hpost : ∀ o ∈ post, ∀ d, o.dst = some d → d < N := fun o ho => hd' o (by rw [hops]; simp [ho])
  have hm1 := hd' o1 (by rw [hops]; simp)
  have hm2 := hd' o2 (by rw [hops]; simp)
  have hh := h (Q .normal) fun _ _ _ h => h
  have hw := hS B w0 X hs.sd
  have key := aOps_okT (ops := ops) (Qc := fun e a' w' => ∃ τ' σ' M' μ', Q e τ' σ' M' ∧ HS B w0 X N K E τ' σ' M' a' w' μ') (o1 :: o2 :: post) pre τ σ M a w μ hs hpre hh ?_
  · rw [hops]; exact key
  rintro τ1 σ1 M1 a1 w1 μ1 ⟨k, j, v, hj, hlt, hv, hrest⟩ hs1
  have htab : w1.cell? ⟨g, j, none⟩ = some v := (hw.2.2.keep (hs1.rel.keep.block g hw.1 hw.2.1)) (j, v) hv
  have hjv : a1.eval (.tmp jt) = .int k j := by
    have := ev_rel hs1.tm (.tmp jt)
    simp only [ev] at this
    rw [hj] at this
    simpa [VRel] using this
  have e1 : (Addr.mk g 0 none).add j = ⟨g, j, none⟩ := add_row g j
  have r1 : (execOp a1.eval o1).run P w1 = .ok (.value (.pointer (some ⟨g, j, none⟩))) w1 := by
    have hg : a1.eval (.global g) = .pointer (some ⟨g, 0, none⟩) := by simp [Act.eval]
    have hi : (Instr.indexAt t (.pointer (some ⟨g, 0, none⟩)) (.int k j)).run P w1 = .ok (.pointer (some ⟨g, j, none⟩)) w1 := by
      have h0 : (0 : Int) ≤ j := by omega
      simp [Instr.indexAt, asIntOf, run_underlying ht, run_sizeOfO hz, Instr.sureAddr, hlt, e1]
    simp [execOp, h1.1, hg, hjv, hi]
  refine wpList_step fun KC hKC => ?_
  rw [if_pos (gdA_ok hs1 (by rw [h1.2.2]; rfl))]
  unfold Oper.wp
  rw [r1, Oper.upon_value]
  have hs2 := hs1.put (d := o1.dst) (After.same (M := M1) hs1.rel (show VRel μ1 (.v (.pointer (some ⟨g, j, none⟩))) (.pointer (some ⟨g, j, none⟩)) by simp [VRel])) hm1
  refine hKC _ _ ?_
  have hdi : (a1.put o1.dst (.pointer (some ⟨g, j, none⟩))).eval (.tmp di) = .pointer (some ⟨g, j, none⟩) := by
    have := ev_rel hs2.tm (.tmp di)
    simpa [ev, h1.2.1, Go.Proofs.YtgaiemhbllbaiaaDoor.put, get, VRel] using this
  have r2 : (execOp (a1.put o1.dst (.pointer (some ⟨g, j, none⟩))).eval o2).run P w1 = .ok (.value v) w1 := by
    simp [execOp, h2.1, hdi, Instr.loadAt, Instr.sureAddr, loadVar, run_isAggO ha, htab]
  refine wpList_step fun KC hKC => ?_
  rw [if_pos (gdA_ok hs2 (by rw [h2.2.2]; rfl))]
  unfold Oper.wp
  rw [r2, Oper.upon_value]
  have hs3 := hs2.put (d := o2.dst) (After.same (M := M1) hs2.rel (show VRel μ1 (.v v) v by simp [VRel])) hm2
  refine hKC _ _ ?_
  rw [h1.2.1, h2.2.1] at hs3
  rw [h1.2.1, h2.2.1]
  exact aOps_ok post _ _ _ _ _ _ hs3 hpost hrest fun τ' σ' M' a' w' μ' hq hs' => ⟨τ', σ', M', μ', hq, hs'⟩
end
end Go.Proofs.YtgaiemhbllbaiaaDoor
