/- An abstract store for walks, part 15: a region that draws its order, walked in the text's order: the rule. No condition: nothing of a program stands here. -/
import Derived.Test.YthjjfdbkggiaeaaAb14
set_option linter.unusedSimpArgs false
set_option linter.unusedVariables false
namespace Go.Proofs.Ythjjfdbkggiaeaa
open Go Go.RowKit

structure HF (B : Nat) (w0 : World) (X : Nat → Prop) (N K : Nat) (E : Mu) (τ : Tm) (σ : Sto) (fr : Nat → Prop) (a : Act) (w : World) (μ : Mu) : Prop where
  dfr : a.defers = []
  siz : a.tmps.size = N
  rel : Rel B w0 X μ σ w
  fre : ∀ b, fr b → μ b = none
  ext : ∀ b, b < K → μ b = E b
  tm : TRel μ τ a.tmps

section
variable {P : Program} {B N K : Nat} {w0 : World} {X : Nat → Prop} {E μ : Mu} {σ σ' : Sto} {w : World} {τ τ' : Tm} {fr fr' : Nat → Prop} {a : Act}

theorem HF.alike (h : HF B w0 X N K E τ σ fr a w μ) (ht : ∀ t, get τ' t = get τ t) (hs : ∀ b, σ' b = σ b) (hf : ∀ b, fr' b → fr b) : HF B w0 X N K E τ' σ' fr' a w μ := by
  have e : σ' = σ := funext hs
  subst e
  exact ⟨h.dfr, h.siz, h.rel, fun b hb => h.fre b (hf b hb), h.ext, fun i => by rw [ht]; exact h.tm i⟩
theorem HF.hs (h : HF B w0 X N K E τ σ fr a w μ) : ∃ M, HS B w0 X N K E τ σ M a w μ := by
  obtain ⟨M, hM⟩ := h.rel.fin
  exact ⟨max K M, h.dfr, h.siz, h.rel, fun b hb => hM b (by omega), h.ext, h.tm, by omega⟩
theorem HF.step {d : Option Tmp} {v : AV} {u : Value} {w' : World} {μ' : Mu} {Mi : Nat} (h : HF B w0 X N K E τ σ fr a w μ) (hv : VRel μ' v u) (hr : Rel B w0 X μ' σ' w') (hs : Sub μ μ')
    (hold : ∀ b, b ≠ Mi → b ≠ Mi + 1 → μ' b = μ b) (hK : K ≤ Mi) (hd : ∀ x, d = some x → x < N) :
    HF B w0 X N K E (Go.Proofs.Ythjjfdbkggiaeaa.put d v τ) σ' (fun b => fr b ∧ b ≠ Mi ∧ b ≠ Mi + 1) (a.put d u) w' μ' := by
  refine ⟨?_, ?_, hr, fun b hb => (hold b hb.2.1 hb.2.2).trans (h.fre b hb.1), fun b hb => (hold b (by omega) (by omega)).trans (h.ext b hb), ?_⟩
  · unfold Act.put; split <;> exact h.dfr
  · unfold Act.put; split
    · simpa using h.siz
    · exact h.siz
  · unfold Act.put Go.Proofs.Ythjjfdbkggiaeaa.put
    cases d with
    | none => exact h.tm.mono hs
    | some d => exact (h.tm.mono hs).put hv (by rw [h.siz]; exact hd d rfl)
end

/-- The operation does this, wherever what it looks at stands as here. -/
def GoodE (P : Program) (ops : Array Oper) (M0 i : Nat) (o : Oper) (τ : Tm) (σ : Sto) (e : En) : Prop :=
  e.d = o.dst ∧ ∀ (B N K : Nat) (w0 : World) (X : Nat → Prop) (E : Mu) (τ' : Tm) (σ' : Sto) (fr : Nat → Prop) (a : Act) (w : World) (μ : Mu) (Qc : Exit → Act → World → Prop) (Kc : Act → World → Prop),
    ops[i]? = some o → (∀ t ∈ lkA (ops.toList.map (·.dst)) o, get τ' t = get τ t) → (∀ b ∈ e.F, σ' b = σ b) → HF B w0 X N K E τ' σ' fr a w μ → fr (M0 + 2 * i) → fr (M0 + 2 * i + 1) → K ≤ M0 → (∀ d, o.dst = some d → d < N) →
    (∀ a' w' μ', HF B w0 X N K E (put o.dst e.v τ') (app e.W e.s σ') (fun b => fr b ∧ b ≠ M0 + 2 * i ∧ b ≠ M0 + 2 * i + 1) a' w' μ' → Kc a' w') → wpOp P ops Qc i Kc a w

def dOps (P : Program) (ds : List (Option Tmp)) (M0 : Nat) : List Oper → Nat → (List En → Tm → Sto → Prop) → List En → Tm → Sto → Prop
  | [], _, K, tr, τ, σ => K tr τ σ
  | o :: rest, i, K, tr, τ, σ => match gdA ds τ o.guard with
    | some true => match callOf o.op with
      | some (x, args) => match ev τ x with
        | .fn f caps => ∃ (F W : List Nat) (v : AV) (δ : Sto), (∀ σ' : Sto, (∀ b ∈ F, σ' b = σ b) → AC P f (args.map (ev τ) ++ caps) σ' (M0 + 2 * i) fun r δ' => r = v ∧ δ' = δ) ∧ (∀ b, b ∉ W → δ b = none) ∧ (∀ b ∈ W, δ b ≠ none) ∧
            dOps P ds M0 rest (i + 1) K (⟨o.dst, v, W, δ, F⟩ :: tr) (put o.dst v τ) (ovr σ δ)
        | _ => False
      | none => match fOp P τ σ (M0 + 2 * i) o.op with
        | some (v, σ', _) => dOps P ds M0 rest (i + 1) K (⟨o.dst, v, opW τ (M0 + 2 * i) o.op, σ', opR τ o.op⟩ :: tr) (put o.dst v τ) σ'
        | none => False
    | some false => dOps P ds M0 rest (i + 1) K (⟨o.dst, .v undef, [], noS, []⟩ :: tr) (put o.dst (.v undef) τ) σ
    | none => False

/-! what stands where, when some have been done -/
def fo {β : Type} (g : En → Option β) (S : Nat → Bool) : Nat → List En → β → β
  | _, [], x => x
  | i, e :: es, x => fo g S (i + 1) es (if S i = true then (g e).getD x else x)
def gT (t : Tmp) (e : En) : Option AV := if e.d = some t then some e.v else none
def gN (b : Nat) (e : En) : Option (Option Blk) := if b ∈ e.W then some (e.s b) else none
def fT (S : Nat → Bool) : Nat → List En → Tm → Tm
  | _, [], τ => τ
  | i, e :: es, τ => fT S (i + 1) es (if S i = true then put e.d e.v τ else τ)
def fS (S : Nat → Bool) (i : Nat) (es : List En) (σ : Sto) : Sto := fun b => fo (gN b) S i es (σ b)

section
variable {β : Type} {g : En → Option β} {S S' : Nat → Bool}
theorem fo_congr : ∀ (es : List En) (i : Nat) (x : β), (∀ j e, es[j]? = some e → (g e).isSome = true → S (i + j) = S' (i + j)) → fo g S i es x = fo g S' i es x
  | [], _, _, _ => rfl
  | e :: es, i, x, h => by
    simp only [fo]
    have e1 : (if S i = true then (g e).getD x else x) = if S' i = true then (g e).getD x else x := by
      cases hg : g e with
      | none => simp
      | some y =>
        have := h 0 e (by simp) (by simp [hg])
        simp only [Nat.add_zero] at this
        rw [this]
    rw [e1]
    exact fo_congr es (i + 1) _ fun j e' he hs => by
      have := h (j + 1) e' (by simpa using he) hs
      rwa [Nat.add_assoc, Nat.add_comm 1 j]
theorem fo_none : ∀ (es : List En) (i : Nat) (x : β), (∀ j e, es[j]? = some e → (g e).isSome = true → S (i + j) = false) → fo g S i es x = x
  | [], _, _, _ => rfl
  | e :: es, i, x, h => by
    simp only [fo]
    have e1 : (if S i = true then (g e).getD x else x) = x := by
      cases hg : g e with
      | none => simp
      | some y =>
        have := h 0 e (by simp) (by simp [hg])
        simp only [Nat.add_zero] at this
        simp [this]
    rw [e1]
    exact fo_none es (i + 1) _ fun j e' he hs => by
      have := h (j + 1) e' (by simpa using he) hs
      rwa [Nat.add_assoc, Nat.add_comm 1 j]
theorem fo_last : ∀ (es : List En) (i k : Nat) (x y : β) (e : En), es[k]? = some e → g e = some y → S (i + k) = true → (∀ j e', k < j → es[j]? = some e' → (g e').isSome = true → S (i + j) = false) → fo g S i es x = y
  | [], _, k, _, _, _, he, _, _, _ => by simp at he
  | z :: es, i, 0, x, y, e, he, hg, hS, h => by
    simp at he
    subst he
    simp only [Nat.add_zero] at hS
    simp only [fo, hS, if_true, hg, Option.getD_some]
    exact fo_none es (i + 1) y fun j e' he hs => by
      have := h (j + 1) e' (by omega) (by simpa using he) hs
      rwa [Nat.add_assoc, Nat.add_comm 1 j]
  | z :: es, i, k + 1, x, y, e, he, hg, hS, h => by
    simp only [fo]
    exact fo_last es (i + 1) k _ y e (by simpa using he) hg (by rwa [Nat.add_assoc, Nat.add_comm 1 k]) fun j e' hj he hs => by
      have := h (j + 1) e' (by omega) (by simpa using he) hs
      rwa [Nat.add_assoc, Nat.add_comm 1 j]
theorem get_put (d : Option Tmp) (v : AV) (τ : Tm) (t : Tmp) : get (put d v τ) t = if d = some t then v else get τ t := by
  cases d with
  | none => simp [put]
  | some d =>
    simp only [put, get]
    by_cases h : t = d
    · subst h; simp
    · simp [h, Ne.symm h]
theorem get_fT (t : Tmp) : ∀ (es : List En) (i : Nat) (τ : Tm), get (fT S i es τ) t = fo (gT t) S i es (get τ t)
  | [], _, _ => rfl
  | e :: es, i, τ => by
    simp only [fT, fo]
    rw [get_fT t es (i + 1)]
    congr 1
    by_cases h : S i = true
    · simp only [h, if_true, get_put, gT]
      by_cases h2 : e.d = some t <;> simp [h2]
    · simp [h]
end

def Goods (P : Program) (ops : Array Oper) (M0 : Nat) : Nat → List Oper → List En → Tm → Sto → Prop
  | _, [], [], _, _ => True
  | i, o :: l, e :: es, τ, σ => GoodE P ops M0 i o τ σ e ∧ Goods P ops M0 (i + 1) l es (put e.d e.v τ) (app e.W e.s σ)
  | _, _, _, _, _ => False

theorem Goods.len {P : Program} {ops : Array Oper} {M0 : Nat} : ∀ {l : List Oper} {es : List En} {i : Nat} {τ : Tm} {σ : Sto}, Goods P ops M0 i l es τ σ → l.length = es.length
  | [], [], _, _, _, _ => rfl
  | o :: l, e :: es, i, τ, σ, h => by simp [Goods.len h.2]
  | [], _ :: _, _, _, _, h => h.elim
  | _ :: _, [], _, _, _, h => h.elim

theorem Goods.at {P : Program} {ops : Array Oper} {M0 : Nat} : ∀ {l : List Oper} {es : List En} {i : Nat} {τ : Tm} {σ : Sto}, Goods P ops M0 i l es τ σ →
    ∀ k o e, l[k]? = some o → es[k]? = some e → ∃ τk σk, GoodE P ops M0 (i + k) o τk σk e ∧ (∀ t, get τk t = fo (gT t) (fun j => decide (j < i + k)) i es (get τ t)) ∧ ∀ b, σk b = fo (gN b) (fun j => decide (j < i + k)) i es (σ b)
  | [], [], _, _, _, _, k, o, e, ho, _ => by simp at ho
  | [], _ :: _, _, _, _, h, _, _, _, _, _ => h.elim
  | _ :: _, [], _, _, _, h, _, _, _, _, _ => h.elim
  | o :: l, e :: es, i, τ, σ, h, 0, o', e', ho, he => by
    simp at ho he
    subst ho; subst he
    refine ⟨τ, σ, h.1, fun t => ?_, fun b => ?_⟩
    · exact (fo_none _ _ _ fun j e _ _ => by simp).symm
    · exact (fo_none _ _ _ fun j e _ _ => by simp).symm
  | o :: l, e :: es, i, τ, σ, h, k + 1, o', e', ho, he => by
    obtain ⟨τk, σk, h1, h2, h3⟩ := Goods.at h.2 k o' e' (by simpa using ho) (by simpa using he)
    rw [Nat.add_assoc, Nat.add_comm 1 k] at h1
    refine ⟨τk, σk, h1, fun t => ?_, fun b => ?_⟩
    · rw [h2]
      simp only [fo]
      have e0 : decide (i < i + (k + 1)) = true := by simp
      rw [if_pos e0, get_put]
      rw [Nat.add_assoc, Nat.add_comm 1 k]
      congr 1
      unfold gT
      by_cases h2 : e.d = some t <;> simp [h2]
    · rw [h3]
      simp only [fo]
      have e0 : decide (i < i + (k + 1)) = true := by simp
      rw [if_pos e0]
      rw [Nat.add_assoc, Nat.add_comm 1 k]
      congr 1
      unfold gN app
      by_cases h2 : b ∈ e.W <;> simp [h2]

theorem fOp_congr {P : Program} {τ τ' : Tm} {σ : Sto} {M : Nat} (op : Op) (h : ∀ x ∈ op.operands, ev τ' x = ev τ x) : fOp P τ' σ M op = fOp P τ σ M op := by
  have pairs : ∀ ps : Array (Nat × Operand), (∀ x ∈ (ps.toList.map (·.2)).toArray, ev τ' x = ev τ x) → (ps.toList.map fun p => (p.1, ev τ' p.2)) = (ps.toList.map fun p => (p.1, ev τ p.2)) := fun ps hp =>
    List.map_congr_left fun p hm => by rw [hp p.2 (by simpa using ⟨p.1, by simpa using hm⟩)]
  cases op <;> simp only [Op.operands] at h <;> simp only [fOp]
  case build t ps => rw [pairs ps h]
  case buildSlice t n ps => rw [pairs ps h]
  case makeFunc fn first captured =>
    have : captured.toList.map (ev τ') = captured.toList.map (ev τ) := List.map_congr_left fun x hx => h x (by simp at hx ⊢; exact .inr hx)
    rw [this]
  case call c =>
    have : c.args.toList.map (ev τ') = c.args.toList.map (ev τ) := List.map_congr_left fun x hx => h x (by simp [Call.operands] at hx ⊢; exact .inr hx)
    rw [this]
  case slice t x lo hi mx => cases lo <;> cases hi <;> cases mx <;> simp_all
  all_goals (first | rfl | (simp_all; done))

theorem opRW_congr {τ τ' : Tm} {M : Nat} (op : Op) (h : ∀ x ∈ op.operands, ev τ' x = ev τ x) : opR τ' op = opR τ op ∧ opW τ' M op = opW τ M op := by
  cases op <;> simp only [Op.operands] at h <;> simp only [opR, opW, and_self]
  case call c =>
    have : c.args.toList.map (ev τ') = c.args.toList.map (ev τ) := List.map_congr_left fun x hx => h x (by simp [Call.operands] at hx ⊢; exact .inr hx)
    rw [this]
    exact ⟨rfl, rfl⟩
  all_goals (simp_all; done)

theorem gdA_congr {ds : List (Option Tmp)} {τ τ' : Tm} {o : Oper} (h : ∀ t ∈ lkA ds o, get τ' t = get τ t) : gdA ds τ' o.guard = gdA ds τ o.guard := by
  unfold lkA at h
  unfold gdA
  cases hg : o.guard with
  | none => rfl
  | some p =>
    obtain ⟨g, want⟩ := p
    simp only [hg] at h
    simp only
    unfold gdB
    split
    · rename_i want' d hd
      rw [h d (by simp [hd])]
    · rfl
theorem ev_congr {ds : List (Option Tmp)} {τ τ' : Tm} {o : Oper} (h : ∀ t ∈ lkA ds o, get τ' t = get τ t) : ∀ x ∈ o.op.operands, ev τ' x = ev τ x := by
  intro x hx
  cases x with
  | tmp t => exact h t (List.mem_append_left _ (List.mem_filterMap.2 ⟨.tmp t, by simpa using hx, rfl⟩))
  | _ => rfl

theorem GoodE.skip {P : Program} {ops : Array Oper} {M0 i : Nat} {o : Oper} {τ : Tm} {σ : Sto} (hg : gdA (ops.toList.map (·.dst)) τ o.guard = some false) : GoodE P ops M0 i o τ σ ⟨o.dst, .v undef, [], noS, []⟩ := by
  refine ⟨rfl, fun B N K w0 X E τ' σ' fr a w μ Qc Kc hi ht hs h hf1 hf2 hK hd hk => ?_⟩
  unfold wpOp
  simp only [hi]
  obtain ⟨M, hM⟩ := h.hs
  have hw := gdA_ok (ops := ops) (o := o) hM (by rw [gdA_congr ht]; exact hg)
  rw [if_neg (by rw [hw]; simp)]
  refine hk _ _ μ (h.step (by simp [VRel]) ?_ (Sub.refl _) (fun _ _ _ => rfl) (by omega) hd)
  rw [app_nil]; exact h.rel

theorem GoodE.op {P : Program} {ops : Array Oper} {M0 i : Nat} {o : Oper} {τ : Tm} {σ σ1 : Sto} {v : AV} {M' : Nat} (hg : gdA (ops.toList.map (·.dst)) τ o.guard = some true) (hop : fOp P τ σ (M0 + 2 * i) o.op = some (v, σ1, M')) :
    GoodE P ops M0 i o τ σ ⟨o.dst, v, opW τ (M0 + 2 * i) o.op, σ1, opR τ o.op⟩ := by
  refine ⟨rfl, fun B N K w0 X E τ' σ' fr a w μ Qc Kc hi ht hs h hf1 hf2 hK hd hk => ?_⟩
  unfold wpOp
  simp only [hi]
  obtain ⟨M, hM⟩ := h.hs
  have hw := gdA_ok (ops := ops) (o := o) hM (by rw [gdA_congr ht]; exact hg)
  rw [if_pos hw]
  left
  obtain ⟨_, h2⟩ := fOp_loc τ o.op v σ1 M' hop
  have h3 : fOp P τ σ' (M0 + 2 * i) o.op = some (v, app (opW τ (M0 + 2 * i) o.op) σ1 σ', M') := h2 σ' hs
  rw [← fOp_congr o.op (ev_congr ht)] at h3
  obtain ⟨nx, u, w', μ', hrun, hnx, ha⟩ := fOp_ok h.rel (h.fre _ hf1) h.tm h3
  have hst := h.step ha.val ha.rel ha.sub (Mi := M0 + 2 * i) (fun b h1 _ => by
    rcases ha.nm with ⟨_, e2⟩ | ⟨_, e2⟩
    · rw [e2]
    · exact e2 b h1) (by omega) hd
  unfold Oper.wp
  rw [hrun]
  rcases hnx with rfl | ⟨rfl, rfl⟩
  · rw [Oper.upon_value]
    exact hk _ _ μ' hst
  · rw [Oper.upon_skip]
    exact hk _ _ μ' hst

theorem GoodE.call {P : Program} {ops : Array Oper} {M0 i : Nat} {o : Oper} {τ : Tm} {σ δ : Sto} {v : AV} {F W : List Nat} {x : Operand} {args : List Operand} {f : FuncId} {caps : List AV} (hg : gdA (ops.toList.map (·.dst)) τ o.guard = some true)
    (hc : callOf o.op = some (x, args)) (hf : ev τ x = .fn f caps) (hac : ∀ σ' : Sto, (∀ b ∈ F, σ' b = σ b) → AC P f (args.map (ev τ) ++ caps) σ' (M0 + 2 * i) fun r δ' => r = v ∧ δ' = δ)
    (hw1 : ∀ b, b ∉ W → δ b = none) (hw2 : ∀ b ∈ W, δ b ≠ none) : GoodE P ops M0 i o τ σ ⟨o.dst, v, W, δ, F⟩ := by
  refine ⟨rfl, fun B N K w0 X E τ' σ' fr a w μ Qc Kc hi ht hs h hf1 hf2 hK hd hk => ?_⟩
  unfold wpOp
  simp only [hi]
  obtain ⟨M, hM⟩ := h.hs
  have hw := gdA_ok (ops := ops) (o := o) hM (by rw [gdA_congr ht]; exact hg)
  rw [if_pos hw]
  left
  obtain ⟨c, hop, hcal, hargs⟩ := callOf_ok hc
  have hev := ev_congr ht
  have hx := ev_rel h.tm x
  rw [hev x (by simp [hop, Op.operands, Call.operands, hcal]), hf] at hx
  simp only [VRel] at hx
  obtain ⟨cs, hx, hcs⟩ := hx
  have hk := hk
  have hAC := hac σ' hs
  have hrun : (execOp a.eval o).run P w = .ok (.enter f (args.map a.eval ++ cs).toArray) w := by
    simp only [execOp, hop, resolve, hcal, hx, Deferred.ofValue, Sem.run_bind, Sem.run_pure, Result.andThen_ok, invoke]
    rw [hAC.1]
    have e : (#[] ++ c.args.map a.eval ++ cs.toArray : Array Value) = (args.map a.eval ++ cs).toArray := by
      apply Array.toList_inj.1
      simp [← hargs]
    rw [e]
  unfold Oper.wp
  rw [hrun, Oper.upon_enter]
  have hargv : VRels μ (args.map (ev τ) ++ caps) (args.map a.eval ++ cs) := by
    have e : args.map (ev τ) = args.map (ev τ') := List.map_congr_left fun y hy => (hev y (by
      simp only [hop, Op.operands, Call.operands, Array.mem_append]
      right
      rw [← hargs] at hy
      simpa using hy)).symm
    rw [e]
    exact (evs_rel h.tm args).append hcs
  refine (hAC.2 B w0 X μ w (args.map a.eval ++ cs) h.rel (h.fre _ hf1) (h.fre _ hf2) hargv).mono ?_
  rintro e w' ⟨r, δ', μ', v', rfl, ⟨rfl, rfl⟩, hv, hrel, hsub, hold⟩
  refine hk _ _ μ' (h.step hv ?_ hsub hold (by omega) hd)
  have e : app W δ' σ' = ovr σ' δ' := by
    funext b
    unfold app ovr
    split
    · rename_i hb
      have := hw2 b hb
      cases hδ : δ' b with
      | none => exact (this hδ).elim
      | some k => rfl
    · rename_i hb
      rw [hw1 b hb]
  simp only [e]
  exact hrel

theorem dOps_ok {P : Program} {ops : Array Oper} {M0 : Nat} : ∀ (l : List Oper) (i : Nat) (K : List En → Tm → Sto → Prop) (tr : List En) (τ : Tm) (σ : Sto), dOps P (ops.toList.map (·.dst)) M0 l i K tr τ σ →
    ∃ es τ' σ', K (es.reverse ++ tr) τ' σ' ∧ Goods P ops M0 i l es τ σ ∧ (∀ t, get τ' t = fo (gT t) (fun _ => true) i es (get τ t)) ∧ ∀ b, σ' b = fo (gN b) (fun _ => true) i es (σ b)
  | [], i, K, tr, τ, σ, h => ⟨[], τ, σ, h, trivial, fun _ => rfl, fun _ => rfl⟩
  | o :: l, i, K, tr, τ, σ, h => by
    have next : ∀ (e : En) (σ1 : Sto), GoodE P ops M0 i o τ σ e → (∀ b, σ1 b = app e.W e.s σ b) → dOps P (ops.toList.map (·.dst)) M0 l (i + 1) K (e :: tr) (put o.dst e.v τ) σ1 →
        ∃ es τ' σ', K (es.reverse ++ tr) τ' σ' ∧ Goods P ops M0 i (o :: l) es τ σ ∧ (∀ t, get τ' t = fo (gT t) (fun _ => true) i es (get τ t)) ∧ ∀ b, σ' b = fo (gN b) (fun _ => true) i es (σ b) := fun e σ1 hg hσ hd => by
      obtain ⟨es, τ', σ', h1, h2, h3, h4⟩ := dOps_ok l (i + 1) K (e :: tr) (put o.dst e.v τ) σ1 hd
      have e1 : σ1 = app e.W e.s σ := funext hσ
      refine ⟨e :: es, τ', σ', by simpa using h1, ⟨hg, ?_⟩, fun t => ?_, fun b => ?_⟩
      · rw [hg.1, ← e1]; exact h2
      · rw [h3 t]
        simp only [fo, if_true]
        congr 1
        rw [get_put, ← hg.1]
        unfold gT
        by_cases h2 : e.d = some t <;> simp [h2]
      · rw [h4 b, hσ b]
        simp only [fo, if_true]
        congr 1
        unfold gN app
        by_cases h2 : b ∈ e.W <;> simp [h2]
    simp only [dOps] at h
    split at h <;> try (exact h.elim)
    · rename_i hg
      split at h
      · rename_i x args hc
        split at h <;> try (exact h.elim)
        rename_i f caps hf
        obtain ⟨F, W, v, δ, h1, h2, h3, h4⟩ := h
        refine next _ _ (GoodE.call hg hc hf h1 h2 h3) (fun b => ?_) h4
        unfold app ovr
        split
        · rename_i hδ
          have : b ∈ W := Classical.byContradiction fun hb => by rw [h2 b hb] at hδ; cases hδ
          rw [if_pos this]; exact hδ.symm
        · rename_i hδ
          have : b ∉ W := fun hb => h3 b hb hδ
          rw [if_neg this]
      · split at h <;> try (exact h.elim)
        rename_i v σ1 M' hop
        refine next _ _ (GoodE.op hg hop) (fun b => ?_) h
        obtain ⟨h1, _⟩ := fOp_loc τ o.op v σ1 M' hop
        simp only
        rw [app_same h1]
    · rename_i hg
      exact next _ _ (GoodE.skip hg) (fun b => by rw [app_nil]) h

/-- For two operations, neither bound ahead of the other: they have nothing in common. -/
structure Apart (tab : Nat) (l : List Oper) (tr : List En) : Prop where
  tb : chkT tab 0 l = true
  back : ∀ (j : Nat) (o : Oper), l[j]? = some o → ∀ d ∈ dirs o, d < j
  slot : ∀ (i j : Nat) (x y : Oper), i < j → l[i]? = some x → l[j]? = some y → ordA tab i j = true ∨ apA (l.map (·.dst)) x y
  mem : ∀ (i j : Nat) (x y : En), i < j → tr[i]? = some x → tr[j]? = some y → ordA tab i j = true ∨ confl x y
theorem apart_of {l : List Oper} {tr : List En} (h1 : dchk l = true) (h2 : memA (tabN l 0 0) 0 tr) : Apart (tabN l 0 0) l tr := by
  unfold dchk at h1
  rw [force_eq, rowsK_eq, Bool.and_eq_true] at h1
  refine ⟨h1.1, fun j o ho d hd => ?_, fun i j x y hij hx hy => ?_, fun i j x y hij hx hy => ?_⟩
  · simpa using (chkT_spec l 0 h1.1 j o ho).1 d hd
  · have := chkA_spec _ 0 h1.2 i _ (by rw [List.getElem?_map, hx]; rfl) j _ hij (by rw [List.getElem?_map, hy]; rfl)
    simp only [Nat.zero_add] at this
    exact this.imp id apR_ok
  · simpa using memA_spec tr 0 h2 i x hx j y hij hy

section
variable {P : Program} {ops : Array Oper} {Qc : Exit → Act → World → Prop} {tr : List En} {τ0 : Tm} {σ0 : Sto} {M0 N K B tab : Nat} {w0 : World} {X : Nat → Prop} {E : Mu}

def setS (S : Nat → Bool) (i : Nat) : Nat → Bool := fun j => if j = i then true else S j

structure Inv (ops : Array Oper) (tr : List En) (τ0 : Tm) (σ0 : Sto) (M0 N K B : Nat) (w0 : World) (X : Nat → Prop) (E : Mu) (S : Nat → Bool) (a : Act) (w : World) (μ : Mu) : Prop where
  cl : Closed ops.toList S
  hf : HF B w0 X N K E (fT S 0 tr τ0) (fS S 0 tr σ0) (fun b => M0 + 2 * ops.size ≤ b ∨ ∃ k, k < ops.size ∧ S k = false ∧ (b = M0 + 2 * k ∨ b = M0 + 2 * k + 1)) a w μ

theorem Inv.step (hA : Apart tab ops.toList tr) (hG : Goods P ops M0 0 ops.toList tr τ0 σ0) (hK : K ≤ M0) (hN : ∀ o ∈ ops.toList, ∀ d, o.dst = some d → d < N) {S : Nat → Bool} {a : Act} {w : World} {μ : Mu}
    (h : Inv ops tr τ0 σ0 M0 N K B w0 X E S a w μ) {i : Nat} {o : Oper} (ho : ops[i]? = some o) (hi : S i = false) (hd : ∀ d ∈ dirs o, S d = true) {Kc : Act → World → Prop}
    (hk : ∀ a' w' μ', Inv ops tr τ0 σ0 M0 N K B w0 X E (setS S i) a' w' μ' → Kc a' w') : wpOp P ops Qc i Kc a w := by
  have hlen := hG.len
  have hlt : i < ops.size := (Array.getElem?_eq_some_iff.1 ho).1
  have hol : ops.toList[i]? = some o := by simpa using ho
  obtain ⟨e, he⟩ : ∃ e, tr[i]? = some e := ⟨tr[i]'(by rw [← hlen]; simpa using hlt), List.getElem?_eq_getElem _⟩
  obtain ⟨τi, σi, ⟨hed, hgood⟩, hτ, hσ⟩ := hG.at i o e hol he
  simp only [Nat.zero_add] at hτ hσ hgood
  have dof : ∀ (j : Nat) (f : En), tr[j]? = some f → ∃ oj : Oper, ops.toList[j]? = some oj ∧ f.d = oj.dst := fun j f hf => by
    have hj : j < ops.toList.length := by rw [hlen]; exact (List.getElem?_eq_some_iff.1 hf).1
    obtain ⟨τj, σj, ⟨h1, _⟩, _⟩ := hG.at j _ f (List.getElem?_eq_getElem hj) hf
    exact ⟨_, List.getElem?_eq_getElem hj, h1⟩
  -- a writer of what the operation looks at stands as the order says
  have sync : ∀ (j : Nat) (oj : Oper), ops.toList[j]? = some oj → (j < i → ordA tab j i = true) → (i < j → ordA tab i j = true) → S j = decide (j < i) := fun j oj hj h1 h2 => by
    rcases Nat.lt_trichotomy j i with hji | hji | hji
    · rw [ord_ok hA.tb h.cl i o hol (h1 hji) hd]; simp [hji]
    · subst hji; simp [hi]
    · have : S j = false := by
        cases hs : S j with
        | false => rfl
        | true =>
          have := ord_ok hA.tb h.cl j oj hj (h2 hji) (h.cl j oj hj hs)
          rw [hi] at this; cases this
      rw [this]; simp; omega
  have syncT : ∀ t, (t ∈ lkA (ops.toList.map (·.dst)) o ∨ o.dst = some t) → ∀ (j : Nat) (f : En), tr[j]? = some f → (gT t f).isSome = true → S j = decide (j < i) := fun t ht j f hf hs => by
    obtain ⟨oj, hoj, hfd⟩ := dof j f hf
    have hfd2 : oj.dst = some t := by
      rw [← hfd]
      unfold gT at hs
      split at hs
      · assumption
      · cases hs
    refine sync j oj hoj (fun hji => ?_) fun hij => ?_
    · rcases hA.slot j i oj o hji hoj hol with h1 | h1
      · exact h1
      · rcases ht with ht | ht
        · exact ((h1.1 t hfd2).1 ht).elim
        · exact ((h1.1 t hfd2).2 ht).elim
    · rcases hA.slot i j o oj hij hol hoj with h1 | h1
      · exact h1
      · rcases ht with ht | ht
        · exact (h1.2 t hfd2 ht).elim
        · exact ((h1.1 t ht).2 hfd2).elim
  have syncN : ∀ b, (b ∈ e.F ∨ b ∈ e.W) → ∀ (j : Nat) (f : En), tr[j]? = some f → (gN b f).isSome = true → S j = decide (j < i) := fun b hb j f hf hs => by
    obtain ⟨oj, hoj, _⟩ := dof j f hf
    have hbf : b ∈ f.W := by
      unfold gN at hs
      split at hs
      · assumption
      · cases hs
    refine sync j oj hoj (fun hji => ?_) fun hij => ?_
    · rcases hA.mem j i f e hji hf he with h1 | h1
      · exact h1
      · rcases hb with hb | hb
        · exact ((h1.1 b hbf).1 hb).elim
        · exact ((h1.1 b hbf).2 hb).elim
    · rcases hA.mem i j e f hij he hf with h1 | h1
      · exact h1
      · rcases hb with hb | hb
        · exact (h1.2 b hbf hb).elim
        · exact ((h1.1 b hb).2 hbf).elim
  refine hgood B N K w0 X E (fT S 0 tr τ0) (fS S 0 tr σ0) _ a w μ Qc Kc ho (fun t ht => ?_) (fun b hb => ?_) h.hf (.inr ⟨i, hlt, hi, .inl rfl⟩) (.inr ⟨i, hlt, hi, .inr rfl⟩) hK (hN o (List.mem_of_getElem? hol)) fun a' w' μ' hf' => hk a' w' μ' ⟨?_, ?_⟩
  · rw [get_fT, hτ]
    exact fo_congr _ _ _ fun j f hf hs => by simpa using syncT t (.inl ht) j f hf hs
  · rw [hσ]
    exact fo_congr _ _ _ fun j f hf hs => by simpa using syncN b (.inl hb) j f hf hs
  · intro k ok hok hks d hdk
    unfold setS at hks ⊢
    split
    · rfl
    · split at hks
      · rename_i hki
        subst hki
        rw [hol] at hok; cases hok
        exact hd d hdk
      · exact h.cl k ok hok hks d hdk
  · refine hf'.alike (fun t => ?_) (fun b => ?_) ?_
    · rw [get_fT, get_put]
      split
      · rename_i ht
        refine fo_last tr 0 i _ _ e he (by simp [gT, hed, ht]) (by simp [setS]) fun j f hij hf hs => ?_
        have := syncT t (.inr ht) j f hf hs
        simp only [Nat.zero_add, setS, if_neg (show ¬ j = i by omega), this]
        simp; omega
      · rename_i ht
        rw [get_fT]
        refine fo_congr _ _ _ fun j f hf hs => ?_
        have : j ≠ i := fun hji => by
          subst hji
          rw [he] at hf; cases hf
          unfold gT at hs
          rw [hed, if_neg ht] at hs; cases hs
        simp [setS, this]
    · unfold app
      split
      · rename_i hb
        refine fo_last tr 0 i _ _ e he (by simp [gN, hb]) (by simp [setS]) fun j f hij hf hs => ?_
        have := syncN b (.inr hb) j f hf hs
        simp only [Nat.zero_add, setS, if_neg (show ¬ j = i by omega), this]
        simp; omega
      · rename_i hb
        refine fo_congr _ _ _ fun j f hf hs => ?_
        have : j ≠ i := fun hji => by
          subst hji
          rw [he] at hf; cases hf
          unfold gN at hs
          rw [if_neg hb] at hs; cases hs
        simp [setS, this]
    · rintro b (hb | ⟨k, hk1, hk2, hk3⟩)
      · exact ⟨.inl hb, by omega, by omega⟩
      · have hki : k ≠ i := fun e => by subst e; simp [setS] at hk2
        refine ⟨.inr ⟨k, hk1, by simpa [setS, hki] using hk2, hk3⟩, ?_, ?_⟩ <;> rcases hk3 with rfl | rfl <;> omega

theorem dAny (hA : Apart tab ops.toList tr) (hG : Goods P ops M0 0 ops.toList tr τ0 σ0) (hK : K ≤ M0) (hN : ∀ o ∈ ops.toList, ∀ d, o.dst = some d → d < N)
    (hQ : ∀ a w μ, Inv ops tr τ0 σ0 M0 N K B w0 X E (fun k => decide (k < ops.size)) a w μ → Qc .normal a w) :
    ∀ (fuel : Nat) (listed : Array Bool) (a : Act) (w : World) (μ : Mu), listed.size = ops.size → listed.toList.countP (fun b => !b) ≤ fuel → Inv ops tr τ0 σ0 M0 N K B w0 X E (fun k => listed.getD k false) a w μ →
      wpAny P .any ops Qc fuel listed a w := by
  have full : ∀ (listed : Array Bool) (a : Act) (w : World) (μ : Mu), listed.size = ops.size → (∀ k, k < ops.size → listed.getD k false = true) → Inv ops tr τ0 σ0 M0 N K B w0 X E (fun k => listed.getD k false) a w μ → Qc .normal a w := fun listed a w μ hs hall h => by
    have e : (fun k => listed.getD k false) = fun k => decide (k < ops.size) := by
      funext k
      by_cases hk : k < ops.size
      · rw [hall k hk]; simp [hk]
      · have : listed.size ≤ k := by omega
        simp [Array.getElem?_eq_none this, hk]
    rw [e] at h
    exact hQ a w μ h
  have none : ∀ (listed : Array Bool), listed.size = ops.size → Region.ready .any ops listed = [] → ∀ k, k < ops.size → listed.getD k false = true := fun listed hs hr k => by
    induction k using Nat.strongRecOn with
    | ind k ih =>
      intro hk
      cases hl : listed.getD k false with
      | true => rfl
      | false =>
        have hmem : k ∈ Region.ready .any ops listed := by
          rw [mem_ready]
          refine ⟨?_, ops[k], Array.getElem?_eq_getElem hk, fun e he hb => ?_⟩
          · have h1 : k < listed.size := by omega
            simpa [h1] using hl
          · have h2 : e.on ∈ dirs ops[k] := by
              unfold dirs
              rw [List.mem_filterMap]
              exact ⟨e, by simpa using he, by simp [hb]⟩
            have h3 := hA.back k ops[k] (by simp [hk]) _ h2
            exact ih e.on h3 (by omega)
        rw [hr] at hmem
        cases hmem
  intro fuel
  induction fuel with
  | zero =>
    intro listed a w μ hs hc h
    have hall : ∀ k, k < ops.size → listed.getD k false = true := fun k hk => by
      have h0 : ∀ b ∈ listed.toList, ¬ (!b) = true := List.countP_eq_zero.1 (Nat.le_zero.1 hc)
      have hk2 : k < listed.size := by omega
      have := h0 listed[k] (by simp)
      simpa [hk2] using this
    refine ⟨?_, full listed a w μ hs hall h⟩
    cases hr : Region.ready .any ops listed with
    | nil => rfl
    | cons j r =>
      have hj : j ∈ Region.ready .any ops listed := by rw [hr]; simp
      obtain ⟨h1, o, ho, _⟩ := mem_ready.1 hj
      have hlt : j < ops.size := (Array.getElem?_eq_some_iff.1 ho).1
      have h2 := hall j hlt
      have h3 : j < listed.size := by omega
      simp [h3] at h1 h2
      rw [h1] at h2; cases h2
  | succ fuel ih =>
    intro listed a w μ hs hc h
    refine ⟨fun hr => full listed a w μ hs (none listed hs hr) h, fun i hi => ?_⟩
    obtain ⟨h1, o, ho, hall⟩ := mem_ready.1 hi
    have hlt : i < ops.size := (Array.getElem?_eq_some_iff.1 ho).1
    have hlt2 : i < listed.size := by omega
    have hif : listed.getD i false = false := by simpa [hlt2] using h1
    refine h.step hA hG hK hN ho hif (fun d hd => ?_) fun a' w' μ' h' => ih _ a' w' μ' (by simp [hs]) ?_ ?_
    · unfold dirs at hd
      rw [List.mem_filterMap] at hd
      obtain ⟨e, he, hb⟩ := hd
      split at hb
      · rename_i hbb
        cases hb
        exact hall e (by simpa using he) hbb
      · cases hb
    · have hl : i < listed.toList.length := by simpa using hlt2
      rw [Array.toList_setIfInBounds, List.countP_set hl]
      have e0 : listed.toList[i] = false := by simpa [hlt2] using h1
      have : 0 < listed.toList.countP (fun b => !b) := List.countP_pos_iff.2 ⟨listed.toList[i], List.getElem_mem hl, by simp [e0]⟩
      simp [e0]
      simp at hc this
      omega
    · have e : (fun k => (listed.setIfInBounds i true).getD k false) = setS (fun k => listed.getD k false) i := by
        funext k
        unfold setS
        split
        · rename_i hk; subst hk; simp [hlt2]
        · rename_i hk; simp [Array.getElem?_setIfInBounds_ne (Ne.symm hk)]
      rw [e]
      exact h'
end

theorem AWP.draw {P : Program} {N K id : Nat} {ops : Array Oper} {Q : Exit → Tm → Sto → Nat → Prop} {τ : Tm} {σ : Sto} {M : Nat} (hm : P.follows .mixedOrders = true) (hd : (ops.toList.all fun o => match o.dst with | some d => decide (d < N) | none => true) = true) (hc : dchk ops.toList = true)
    (h : ∀ KK : Tm → Sto → Nat → Prop, (∀ τ' σ' M', Q .normal τ' σ' M' → KK τ' σ' M') → dOps P (ops.toList.map (·.dst)) M ops.toList 0 (fun tr τ σ => memA (tabN ops.toList 0 0) 0 tr.reverse ∧ KK τ σ (M + 2 * ops.toList.length)) [] τ σ) :
    AWP P N K (.region id ops true) Q τ σ M := by
  intro B w0 X E a w μ hs
  obtain ⟨es, τ1, σ1, ⟨hmem, hQ⟩, hG, hτ, hσ⟩ := dOps_ok _ _ _ _ _ _ (h (Q .normal) fun _ _ _ h => h)
  simp only [List.append_nil, List.reverse_reverse] at hmem
  have hA := apart_of hc hmem
  have hlen := hG.len
  refine wp_region_any hm (dAny (B := B) (w0 := w0) (X := X) (E := E) (N := N) hA hG hs.kM (fun o ho d hdd => ?_) (fun a' w' μ' h' => ?_) ops.size _ a _ μ (by simp) (Nat.le_trans List.countP_le_length (by simp)) ⟨fun k o hk hks => ?_, ?_⟩)
  · have := List.all_eq_true.1 hd o ho
    rw [hdd] at this
    simpa using this
  · have ht := h'.hf.alike (τ' := τ1) (σ' := σ1) (fr' := fun b => M + 2 * ops.size ≤ b) (fun t => ?_) (fun b => ?_) fun b hb => .inl hb
    · have hk := hs.kM
      have e : ops.toList.length = ops.size := by simp
      refine ⟨τ1, σ1, _, μ', hQ, ht.dfr, ht.siz, ht.rel, fun b hb => ht.fre b (by rw [← e]; exact hb), ht.ext, ht.tm, by omega⟩
    · rw [hτ, get_fT]
      refine fo_congr _ _ _ fun j e he _ => ?_
      have : j < ops.size := by
        have := (List.getElem?_eq_some_iff.1 he).1
        simp at hlen; omega
      simp [this]
    · rw [hσ]
      refine fo_congr _ _ _ fun j e he _ => ?_
      have : j < ops.size := by
        have := (List.getElem?_eq_some_iff.1 he).1
        simp at hlen; omega
      simp [this]
  · simp [Array.getElem?_replicate] at hks
    split at hks <;> simp at hks
  · have e0 : ∀ k, (Array.replicate ops.size false).getD k false = false := fun k => by
      simp [Array.getElem?_replicate]
      split <;> rfl
    refine ⟨hs.dfr, hs.siz, ?_, fun b hb => hs.fre b ?_, hs.ext, fun i => ?_⟩
    · have e : fS (fun k => (Array.replicate ops.size false).getD k false) 0 es σ = σ := by
        funext b
        exact fo_none _ _ _ fun j e _ _ => e0 _
      rw [e]
      exact hs.rel.drew
    · rcases hb with hb | ⟨k, _, _, rfl | rfl⟩ <;> omega
    · rw [get_fT, fo_none _ _ _ fun j e _ _ => e0 _]
      exact hs.tm i

end Go.Proofs.Ythjjfdbkggiaeaa
