/- An abstract store for walks, part 16: steps of a drawn region. No condition: nothing of a program stands here. -/
import Derived.Test.YthjjfdbkggiaeaaAb15
set_option linter.unusedSimpArgs false
set_option linter.unusedVariables false
namespace Go.Proofs.Ythjjfdbkggiaeaa
open Go Go.RowKit

abbrev DK := List En → Tm → Sto → Prop
def dStop (P : Program) (ds : List (Option Tmp)) (M0 : Nat) (f : FuncId) (args : List AV) (d : Option Tmp) (rest : List Oper) (i : Nat) (K : DK) (tr : List En) (τ : Tm) (σ : Sto) : Prop :=
  ∃ (F W : List Nat) (v : AV) (δ : Sto), (∀ σ' : Sto, (∀ b ∈ F, σ' b = σ b) → AC P f args σ' (M0 + 2 * i) fun r δ' => r = v ∧ δ' = δ) ∧ (∀ b, b ∉ W → δ b = none) ∧ (∀ b ∈ W, δ b ≠ none) ∧
    dOps P ds M0 rest (i + 1) K (⟨d, v, W, δ, F⟩ :: tr) (put d v τ) (ovr σ δ)
def dGo (P : Program) (ds : List (Option Tmp)) (M0 : Nat) (x : AV) (args : List AV) (d : Option Tmp) (rest : List Oper) (i : Nat) (K : DK) (tr : List En) (τ : Tm) (σ : Sto) : Prop :=
  match x with
  | .fn f caps => dStop P ds M0 f (args ++ caps) d rest i K tr τ σ
  | _ => False
def dCont (P : Program) (ds : List (Option Tmp)) (M0 : Nat) (o : Option Out) (W F : List Nat) (d : Option Tmp) (rest : List Oper) (i : Nat) (K : DK) (tr : List En) (τ : Tm) : Prop :=
  match o with
  | some (v, σ', _) => dOps P ds M0 rest (i + 1) K (⟨d, v, W, σ', F⟩ :: tr) (put d v τ) σ'
  | none => False
def dDo (P : Program) (ds : List (Option Tmp)) (M0 : Nat) (c : Option (Operand × List Operand)) (d : Option Tmp) (op : Op) (rest : List Oper) (i : Nat) (K : DK) (tr : List En) (τ : Tm) (σ : Sto) : Prop :=
  match c with
  | some (x, args) => dGo P ds M0 (ev τ x) (args.map (ev τ)) d rest i K tr τ σ
  | none => dCont P ds M0 (fOp P τ σ (M0 + 2 * i) op) (opW τ (M0 + 2 * i) op) (opR τ op) d rest i K tr τ
def dStep (P : Program) (ds : List (Option Tmp)) (M0 : Nat) (g : Option Bool) (d : Option Tmp) (op : Op) (rest : List Oper) (i : Nat) (K : DK) (tr : List En) (τ : Tm) (σ : Sto) : Prop :=
  match g with
  | some true => dDo P ds M0 (callOf op) d op rest i K tr τ σ
  | some false => dOps P ds M0 rest (i + 1) K (⟨d, .v undef, [], noS, []⟩ :: tr) (put d (.v undef) τ) σ
  | none => False
/-- The end of a drawn region. -/
def dEnd (tab : Nat) (M' : Nat) (KK : Tm → Sto → Nat → Prop) (tr : List En) (τ : Tm) (σ : Sto) : Prop := memA tab 0 tr.reverse ∧ KK τ σ M'

section
variable {P : Program} {ds : List (Option Tmp)} {M0 : Nat} {K : DK} {tr : List En} {τ : Tm} {σ : Sto} {i : Nat}
theorem dOps_nil : dOps P ds M0 [] i K tr τ σ = K tr τ σ := propext Iff.rfl
theorem dOps_cons (d : Option Tmp) (op : Op) (t : TypeId) (p : String) (aft : Array Edge) (g : Option (Nat × Bool)) (rest : List Oper) :
    dOps P ds M0 (⟨d, op, t, p, aft, g⟩ :: rest) i K tr τ σ = dStep P ds M0 (gdA ds τ g) d op rest i K tr τ σ := propext Iff.rfl
theorem dStep_yes (d : Option Tmp) (op : Op) (rest : List Oper) : dStep P ds M0 (some true) d op rest i K tr τ σ = dDo P ds M0 (callOf op) d op rest i K tr τ σ := propext Iff.rfl
theorem dStep_no (d : Option Tmp) (op : Op) (rest : List Oper) : dStep P ds M0 (some false) d op rest i K tr τ σ = dOps P ds M0 rest (i + 1) K (⟨d, .v undef, [], noS, []⟩ :: tr) (put d (.v undef) τ) σ := propext Iff.rfl
theorem dDo_call (d : Option Tmp) (op : Op) (x : Operand) (args : List Operand) (rest : List Oper) : dDo P ds M0 (some (x, args)) d op rest i K tr τ σ = dGo P ds M0 (ev τ x) (args.map (ev τ)) d rest i K tr τ σ := propext Iff.rfl
theorem dDo_op (d : Option Tmp) (op : Op) (rest : List Oper) : dDo P ds M0 none d op rest i K tr τ σ = dCont P ds M0 (fOp P τ σ (M0 + 2 * i) op) (opW τ (M0 + 2 * i) op) (opR τ op) d rest i K tr τ := propext Iff.rfl
theorem dCont_some (v : AV) (σ' : Sto) (M' : Nat) (W F : List Nat) (d : Option Tmp) (rest : List Oper) : dCont P ds M0 (some (v, σ', M')) W F d rest i K tr τ = dOps P ds M0 rest (i + 1) K (⟨d, v, W, σ', F⟩ :: tr) (put d v τ) σ' := propext Iff.rfl
theorem dGo_fn (f : FuncId) (caps args : List AV) (d : Option Tmp) (rest : List Oper) : dGo P ds M0 (.fn f caps) args d rest i K tr τ σ = dStop P ds M0 f (args ++ caps) d rest i K tr τ σ := propext Iff.rfl
theorem dStop_of {f : FuncId} {args : List AV} {d : Option Tmp} {rest : List Oper} (F W : List Nat) {v : AV} {δ : Sto} (h : ∀ σ' : Sto, (∀ b ∈ F, σ' b = σ b) → AC P f args σ' (M0 + 2 * i) fun r δ' => r = v ∧ δ' = δ)
    (h1 : ∀ b, b ∉ W → δ b = none) (h2 : ∀ b ∈ W, δ b ≠ none) (h3 : dOps P ds M0 rest (i + 1) K (⟨d, v, W, δ, F⟩ :: tr) (put d v τ) (ovr σ δ)) : dStop P ds M0 f args d rest i K tr τ σ := ⟨F, W, v, δ, h, h1, h2, h3⟩
/-- A call that changes nothing and looks at these blocks. -/
theorem dStop_ro {f : FuncId} {args : List AV} {d : Option Tmp} {rest : List Oper} (F : List Nat) {v : AV} (h : ∀ σ' : Sto, (∀ b ∈ F, σ' b = σ b) → AC P f args σ' (M0 + 2 * i) fun r δ' => r = v ∧ δ' = noS)
    (h3 : dOps P ds M0 rest (i + 1) K (⟨d, v, [], noS, F⟩ :: tr) (put d v τ) σ) : dStop P ds M0 f args d rest i K tr τ σ := ⟨F, [], v, noS, h, fun _ _ => rfl, by simp, by rw [ovr_none]; exact h3⟩
theorem dStop_pure {f : FuncId} {args : List AV} {d : Option Tmp} {rest : List Oper} {v : AV} (h : ∀ σ' : Sto, AC P f args σ' (M0 + 2 * i) fun r δ' => r = v ∧ δ' = noS)
    (h3 : dOps P ds M0 rest (i + 1) K (⟨d, v, [], noS, []⟩ :: tr) (put d v τ) σ) : dStop P ds M0 f args d rest i K tr τ σ := dStop_ro [] (fun σ' _ => h σ') h3
/-- A call that changes nothing and looks at the blocks that its arguments name. -/
theorem dStop_roA {f : FuncId} {args : List AV} {d : Option Tmp} {rest : List Oper} {v : AV} (h : ∀ σ' : Sto, (∀ b ∈ nmAs args, σ' b = σ b) → AC P f args σ' (M0 + 2 * i) fun r δ' => r = v ∧ δ' = noS)
    (h3 : dOps P ds M0 rest (i + 1) K (⟨d, v, [], noS, nmAs args⟩ :: tr) (put d v τ) σ) : dStop P ds M0 f args d rest i K tr τ σ := dStop_ro _ h h3
/-- A call that writes one block, its own new one or an elder one. -/
theorem dStop_modA {f : FuncId} {args : List AV} {d : Option Tmp} {rest : List Oper} (b : Nat) {v : AV} {k : Blk} (h : ∀ σ' : Sto, (∀ b ∈ nmAs args, σ' b = σ b) → AC P f args σ' (M0 + 2 * i) fun r δ' => r = v ∧ δ' = upd noS b k)
    (h3 : dOps P ds M0 rest (i + 1) K (⟨d, v, [b], upd noS b k, nmAs args⟩ :: tr) (put d v τ) (upd σ b k)) : dStop P ds M0 f args d rest i K tr τ σ :=
  ⟨nmAs args, [b], v, upd noS b k, h, fun c hc => by rw [upd_ne _ _ _ _ (by simpa using hc)]; rfl, by simp [upd_eq], by rw [ovr_one]; exact h3⟩
theorem dStop_modF {f : FuncId} {args : List AV} {d : Option Tmp} {rest : List Oper} (F : List Nat) (b : Nat) {v : AV} {k : Blk} (h : ∀ σ' : Sto, (∀ b ∈ F, σ' b = σ b) → AC P f args σ' (M0 + 2 * i) fun r δ' => r = v ∧ δ' = upd noS b k)
    (h3 : dOps P ds M0 rest (i + 1) K (⟨d, v, [b], upd noS b k, F⟩ :: tr) (put d v τ) (upd σ b k)) : dStop P ds M0 f args d rest i K tr τ σ :=
  ⟨F, [b], v, upd noS b k, h, fun c hc => by rw [upd_ne _ _ _ _ (by simpa using hc)]; rfl, by simp [upd_eq], by rw [ovr_one]; exact h3⟩
theorem dStop_newA {f : FuncId} {args : List AV} {d : Option Tmp} {rest : List Oper} {v : AV} {k : Blk} (h : ∀ σ' : Sto, (∀ b ∈ nmAs args, σ' b = σ b) → AC P f args σ' (M0 + 2 * i) fun r δ' => r = v ∧ δ' = upd noS (M0 + 2 * i) k)
    (h3 : dOps P ds M0 rest (i + 1) K (⟨d, v, [M0 + 2 * i], upd noS (M0 + 2 * i) k, nmAs args⟩ :: tr) (put d v τ) (upd σ (M0 + 2 * i) k)) : dStop P ds M0 f args d rest i K tr τ σ := dStop_modA _ h h3
theorem dEnd_ro {tab : Nat} {M' : Nat} {KK : Tm → Sto → Nat → Prop} (h : ∀ f ∈ tr, f.W = []) (hk : KK τ σ M') : dEnd tab M' KK tr τ σ := ⟨memA_ro _ _ fun f hf => h f (by simpa using hf), hk⟩
theorem dEnd_of {tab : Nat} {M' : Nat} {KK : Tm → Sto → Nat → Prop} (h : memA tab 0 tr.reverse) (hk : KK τ σ M') : dEnd tab M' KK tr τ σ := ⟨h, hk⟩
end

theorem AWP.draw' {P : Program} {N K id : Nat} {ops : Array Oper} {Q : Exit → Tm → Sto → Nat → Prop} {τ : Tm} {σ : Sto} {M : Nat} (hm : P.follows .mixedOrders = true) (hd : (ops.toList.all fun o => match o.dst with | some d => decide (d < N) | none => true) = true) (hc : dchk ops.toList = true)
    (h : ∀ (KK : Tm → Sto → Nat → Prop) (tab : Nat), (∀ τ' σ' M', Q .normal τ' σ' M' → KK τ' σ' M') → tab = tabN ops.toList 0 0 → dOps P (ops.toList.map (·.dst)) M ops.toList 0 (dEnd tab (M + 2 * ops.toList.length) KK) [] τ σ) :
    AWP P N K (.region id ops true) Q τ σ M := AWP.draw hm hd hc fun KK hKK => h KK _ hKK rfl

end Go.Proofs.Ythjjfdbkggiaeaa
