/- An abstract store for walks, part 10: calls, regions, branches, loops: the rules of the walk. No condition: nothing of a program stands here. -/
import Derived.Test.YthjjfdbkggiaeaaAb9
import Derived.Deep.LoopGhost
set_option linter.unusedSimpArgs false
set_option linter.unusedVariables false
namespace Go.Proofs.Ythjjfdbkggiaeaa
open Go Go.RowKit

def Ent (P : Program) (f : FuncId) : Prop := ∀ (args : Array Value) (w : World), (callFunc f args).run P w = .ok (.enter f args) w
theorem ent_of {P : Program} {f : FuncId} {fn : Func} {c : Code} (hf : P.funcs[f]? = some fn) (hname : (fn.name == "runtime.NumGoroutine") = false) (hb : fn.body = some c) : Ent P f := by
  intro args w
  have h1 : fn.name ≠ "runtime.NumGoroutine" := by simpa using hname
  simp [callFunc, hf, h1, hb, mark]

/-- **What a call does to the store**: called with these values over this store, the function returns some r, and δ lies over the store behind it; new blocks bear the names ν and ν + 1. -/
def AC (P : Program) (f : FuncId) (args : List AV) (σ : Sto) (ν : Nat) (R : AV → Sto → Prop) : Prop :=
  Ent P f ∧ ∀ (B : Nat) (w0 : World) (X : Nat → Prop) (μ : Mu) (w : World) (vs : List Value), Rel B w0 X μ σ w → μ ν = none → μ (ν + 1) = none → VRels μ args vs →
    Calls P f vs.toArray w fun e w' => ∃ r δ μ' v', e = .returned v' ∧ R r δ ∧ VRel μ' r v' ∧ Rel B w0 X μ' (ovr σ δ) w' ∧ Sub μ μ' ∧ ∀ b, b ≠ ν → b ≠ ν + 1 → μ' b = μ b

theorem AC.mono {P : Program} {f : FuncId} {args : List AV} {σ : Sto} {ν : Nat} {R R' : AV → Sto → Prop} (h : AC P f args σ ν R) (hr : ∀ r δ, R r δ → R' r δ) : AC P f args σ ν R' :=
  ⟨h.1, fun B w0 X μ w vs h1 h2 h3 h4 => (h.2 B w0 X μ w vs h1 h2 h3 h4).mono fun _ _ ⟨r, δ, μ', v', e, hR, rest⟩ => ⟨r, δ, μ', v', e, hr r δ hR, rest⟩⟩

/-- A frame and a world match slots and store. -/
structure HS (B : Nat) (w0 : World) (X : Nat → Prop) (N K : Nat) (E : Mu) (τ : Tm) (σ : Sto) (M : Nat) (a : Act) (w : World) (μ : Mu) : Prop where
  dfr : a.defers = []
  siz : a.tmps.size = N
  rel : Rel B w0 X μ σ w
  fre : ∀ b, M ≤ b → μ b = none
  ext : ∀ b, b < K → μ b = E b
  tm : TRel μ τ a.tmps
  kM : K ≤ M

def AWP (P : Program) (N K : Nat) (c : Code) (Q : Exit → Tm → Sto → Nat → Prop) (τ : Tm) (σ : Sto) (M : Nat) : Prop :=
  ∀ (B : Nat) (w0 : World) (X : Nat → Prop) (E : Mu) (a : Act) (w : World) (μ : Mu), HS B w0 X N K E τ σ M a w μ →
    c.wp P (fun e a' w' => ∃ τ' σ' M' μ', Q e τ' σ' M' ∧ HS B w0 X N K E τ' σ' M' a' w' μ') a w

def put (d : Option Tmp) (v : AV) (τ : Tm) : Tm := match d with | some d => (d, v) :: τ | none => τ
def nth {α : Type} : List α → Nat → Option α
  | [], _ => none
  | x :: _, 0 => some x
  | _ :: l, n + 1 => nth l n
theorem nth_eq {α : Type} : ∀ (l : List α) (n : Nat), nth l n = l[n]?
  | [], n => by simp [nth]
  | x :: l, 0 => by simp [nth]
  | x :: l, n + 1 => by simp [nth, nth_eq l n]
def gdC : AV → Bool → Option Bool
  | .v (.bool b), want => some (b == want)
  | .v (.tuple _), _ => some false
  | _, _ => none
def gdB (τ : Tm) : Option (Option Tmp) → Bool → Option Bool
  | some (some d), want => gdC (get τ d) want
  | _, _ => none
def gdA (ds : List (Option Tmp)) (τ : Tm) : Option (Nat × Bool) → Option Bool
  | none => some true
  | some (j, want) => gdB τ (nth ds j) want
def callOf : Op → Option (Operand × List Operand)
  | .call c => match c.callee with
    | .value x => some (x, c.args.toList)
    | _ => none
  | _ => none

/-- The operations of a region, one behind the other. -/
def aOps (P : Program) (ds : List (Option Tmp)) : List Oper → (Tm → Sto → Nat → Prop) → Tm → Sto → Nat → Prop
  | [], K, τ, σ, M => K τ σ M
  | o :: rest, K, τ, σ, M => match gdA ds τ o.guard with
    | some true => match callOf o.op with
      | some (x, args) => match ev τ x with
        | .fn f caps => AC P f (args.map (ev τ) ++ caps) σ M fun r δ => aOps P ds rest K (put o.dst r τ) (ovr σ δ) (M + 2)
        | _ => False
      | none => match fOp P τ σ M o.op with
        | some (v, σ', M') => aOps P ds rest K (put o.dst v τ) σ' M'
        | none => False
    | some false => aOps P ds rest K (put o.dst (.v undef) τ) σ M
    | none => False
/-- It stands at a call. -/
def aStop (P : Program) (ds : List (Option Tmp)) (f : FuncId) (args : List AV) (d : Option Tmp) (rest : List Oper) (K : Tm → Sto → Nat → Prop) (τ : Tm) (σ : Sto) (M : Nat) : Prop :=
  AC P f args σ M fun r δ => aOps P ds rest K (put d r τ) (ovr σ δ) (M + 2)
def aGo (P : Program) (ds : List (Option Tmp)) (x : AV) (args : List AV) (d : Option Tmp) (rest : List Oper) (K : Tm → Sto → Nat → Prop) (τ : Tm) (σ : Sto) (M : Nat) : Prop :=
  match x with
  | .fn f caps => aStop P ds f (args ++ caps) d rest K τ σ M
  | _ => False
def aCont (P : Program) (ds : List (Option Tmp)) (o : Option Out) (d : Option Tmp) (rest : List Oper) (K : Tm → Sto → Nat → Prop) (τ : Tm) : Prop :=
  match o with
  | some (v, σ', M') => aOps P ds rest K (put d v τ) σ' M'
  | none => False
def aDo (P : Program) (ds : List (Option Tmp)) (c : Option (Operand × List Operand)) (d : Option Tmp) (op : Op) (rest : List Oper) (K : Tm → Sto → Nat → Prop) (τ : Tm) (σ : Sto) (M : Nat) : Prop :=
  match c with
  | some (x, args) => aGo P ds (ev τ x) (args.map (ev τ)) d rest K τ σ M
  | none => aCont P ds (fOp P τ σ M op) d rest K τ
def aStep (P : Program) (ds : List (Option Tmp)) (g : Option Bool) (d : Option Tmp) (op : Op) (rest : List Oper) (K : Tm → Sto → Nat → Prop) (τ : Tm) (σ : Sto) (M : Nat) : Prop :=
  match g with
  | some true => aDo P ds (callOf op) d op rest K τ σ M
  | some false => aOps P ds rest K (put d (.v undef) τ) σ M
  | none => False

section
variable {P : Program} {ds : List (Option Tmp)} {K : Tm → Sto → Nat → Prop} {τ : Tm} {σ : Sto} {M : Nat}
theorem aOps_nil : aOps P ds [] K τ σ M = K τ σ M := propext Iff.rfl
theorem aOps_cons (d : Option Tmp) (op : Op) (t : TypeId) (p : String) (aft : Array Edge) (g : Option (Nat × Bool)) (rest : List Oper) :
    aOps P ds (⟨d, op, t, p, aft, g⟩ :: rest) K τ σ M = aStep P ds (gdA ds τ g) d op rest K τ σ M := propext Iff.rfl
theorem aStep_yes (d : Option Tmp) (op : Op) (rest : List Oper) : aStep P ds (some true) d op rest K τ σ M = aDo P ds (callOf op) d op rest K τ σ M := propext Iff.rfl
theorem aStep_no (d : Option Tmp) (op : Op) (rest : List Oper) : aStep P ds (some false) d op rest K τ σ M = aOps P ds rest K (put d (.v undef) τ) σ M := propext Iff.rfl
theorem aDo_call (d : Option Tmp) (op : Op) (x : Operand) (args : List Operand) (rest : List Oper) : aDo P ds (some (x, args)) d op rest K τ σ M = aGo P ds (ev τ x) (args.map (ev τ)) d rest K τ σ M := propext Iff.rfl
theorem aDo_op (d : Option Tmp) (op : Op) (rest : List Oper) : aDo P ds none d op rest K τ σ M = aCont P ds (fOp P τ σ M op) d rest K τ := propext Iff.rfl
theorem aCont_some (v : AV) (σ' : Sto) (M' : Nat) (d : Option Tmp) (rest : List Oper) : aCont P ds (some (v, σ', M')) d rest K τ = aOps P ds rest K (put d v τ) σ' M' := propext Iff.rfl
theorem aGo_fn (f : FuncId) (caps args : List AV) (d : Option Tmp) (rest : List Oper) : aGo P ds (.fn f caps) args d rest K τ σ M = aStop P ds f (args ++ caps) d rest K τ σ M := propext Iff.rfl
theorem aStop_of {f : FuncId} {args : List AV} {d : Option Tmp} {rest : List Oper} {R : AV → Sto → Prop} (h : AC P f args σ M R) (hr : ∀ r δ, R r δ → aOps P ds rest K (put d r τ) (ovr σ δ) (M + 2)) : aStop P ds f args d rest K τ σ M := h.mono hr
end

section
variable {P : Program} {B N K : Nat} {w0 : World} {X : Nat → Prop} {E μ : Mu} {σ : Sto} {w : World} {τ : Tm} {M : Nat} {a : Act}

theorem TRel.put {tmps : Array Value} (h : TRel μ τ tmps) {v : AV} {u : Value} (hv : VRel μ v u) {d : Nat} (hd : d < tmps.size) : TRel μ ((d, v) :: τ) (tmps.setIfInBounds d u) := by
  intro i
  by_cases e : i = d
  · subst e
    simp only [get, if_true]
    simpa [Array.getD, hd] using hv
  · simp only [get, if_neg e]
    have : (tmps.setIfInBounds d u).getD i undef = tmps.getD i undef := by
      simp only [Array.getD_eq_getD_getElem?, Array.getElem?_setIfInBounds_ne (Ne.symm e)]
    rw [this]
    exact h i

theorem TRel.mono {μ' : Mu} {tmps : Array Value} (h : TRel μ τ tmps) (hs : Sub μ μ') : TRel μ' τ tmps := fun i => VRel.mono hs _ _ (h i)

theorem HS.step {d : Option Tmp} {v : AV} {u : Value} {w' : World} {μ' : Mu} {σ' : Sto} {M' : Nat} (h : HS B w0 X N K E τ σ M a w μ) (hv : VRel μ' v u) (hr : Rel B w0 X μ' σ' w') (hs : Sub μ μ')
    (hold : ∀ b, b < M → μ' b = μ b) (hnew : ∀ b, M' ≤ b → μ' b = none) (hle : M ≤ M') (hd : ∀ x, d = some x → x < N) :
    HS B w0 X N K E (Go.Proofs.Ythjjfdbkggiaeaa.put d v τ) σ' M' (a.put d u) w' μ' := by
  have hk := h.kM
  refine ⟨?_, ?_, hr, hnew, fun b hb => (hold b (by omega)).trans (h.ext b hb), ?_, by omega⟩
  · unfold Act.put; split <;> exact h.dfr
  · unfold Act.put; split
    · simpa using h.siz
    · exact h.siz
  · unfold Act.put Go.Proofs.Ythjjfdbkggiaeaa.put
    cases d with
    | none => exact h.tm.mono hs
    | some d => exact (h.tm.mono hs).put hv (by rw [h.siz]; exact hd d rfl)
theorem HS.put {d : Option Tmp} {v : AV} {u : Value} {w' : World} {μ' : Mu} {σ' : Sto} {M' : Nat} (h : HS B w0 X N K E τ σ M a w μ) (ha : After B w0 X μ M (v, σ', M') u w' μ') (hd : ∀ x, d = some x → x < N) :
    HS B w0 X N K E (Go.Proofs.Ythjjfdbkggiaeaa.put d v τ) σ' M' (a.put d u) w' μ' := by
  rcases ha.nm with ⟨e1, e2⟩ | ⟨e1, e2⟩
  · simp only at e1
    subst e1; subst e2
    exact h.step ha.val ha.rel ha.sub (fun _ _ => rfl) h.fre (Nat.le_refl _) hd
  · simp only at e1
    subst e1
    exact h.step ha.val ha.rel ha.sub (fun b hb => e2 b (by omega)) (fun b hb => (e2 b (by omega)).trans (h.fre b (by omega))) (by omega) hd

theorem gdA_ok {ops : Array Oper} {o : Oper} {b : Bool} (h : HS B w0 X N K E τ σ M a w μ) (hg : gdA (ops.toList.map (·.dst)) τ o.guard = some b) : Region.wanted o (yielded ops a.tmps) = b := by
  unfold gdA at hg
  unfold Region.wanted
  split at hg
  · rename_i hn; rw [hn]; cases hg; rfl
  · rename_i j want hj
    rw [hj]
    simp only
    rw [nth_eq] at hg
    unfold gdB at hg
    split at hg <;> try (cases hg; done)
    rename_i want d hd
    have hds : (ops[j]?).bind (·.dst) = some d := by
      rw [List.getElem?_map] at hd
      cases hx : ops[j]? with
      | none => simp [hx] at hd
      | some x => simp [hx] at hd; simp [hd]
    have ht := h.tm d
    unfold gdC at hg
    split at hg <;> try (cases hg; done)
    · rename_i want p hp
      rw [hp] at ht
      simp only [VRel] at ht
      have hlt : d < a.tmps.size := by
        rcases Nat.lt_or_ge d a.tmps.size with h1 | h1
        · exact h1
        · rw [Array.getD_eq_getD_getElem?, Array.getElem?_eq_none h1] at ht; cases ht
      have : a.tmps[d]? = some (.bool p) := by
        rw [Array.getElem?_eq_getElem hlt]
        rw [Array.getD_eq_getD_getElem?, Array.getElem?_eq_getElem hlt] at ht
        simpa using ht
      cases hg
      simp [yielded, hds, this]
    · rename_i want p hp
      rw [hp] at ht
      simp only [VRel] at ht
      cases hg
      have : ∀ q, a.tmps[d]? ≠ some (.bool q) := fun q hq => by
        rw [Array.getD_eq_getD_getElem?, hq] at ht
        cases ht
      have hy : yielded ops a.tmps j = none := by
        unfold yielded
        rw [hds]
        cases hq : a.tmps[d]? with
        | none => simp [hq]
        | some z =>
          cases z <;> first
            | exact absurd hq (this _)
            | simp [hq]
      rw [hy]
      rfl

theorem callOf_ok {op : Op} {x : Operand} {args : List Operand} (h : callOf op = some (x, args)) : ∃ c : Call, op = .call c ∧ c.callee = .value x ∧ c.args.toList = args := by
  unfold callOf at h
  split at h <;> try (cases h; done)
  rename_i c
  split at h <;> try (cases h; done)
  rename_i y hy
  cases h
  exact ⟨c, rfl, hy, rfl⟩

theorem aOps_ok {ops : Array Oper} {Qc : Exit → Act → World → Prop} {KK : Tm → Sto → Nat → Prop} : ∀ (l : List Oper) (τ : Tm) (σ : Sto) (M : Nat) (a : Act) (w : World) (μ : Mu), HS B w0 X N K E τ σ M a w μ → (∀ o ∈ l, ∀ d, o.dst = some d → d < N) →
    aOps P (ops.toList.map (·.dst)) l KK τ σ M → (∀ τ' σ' M' a' w' μ', KK τ' σ' M' → HS B w0 X N K E τ' σ' M' a' w' μ' → Qc .normal a' w') → wpList P ops Qc l a w
  | [], τ, σ, M, a, w, μ, h, _, hk, hq => wpList_nil (hq _ _ _ _ _ _ hk h)
  | o :: l, τ, σ, M, a, w, μ, h, hd, hk, hq => by
    refine wpList_step fun KC hKC => ?_
    have hdo := hd o (by simp)
    have ih := fun τ σ M a w μ h hk => hKC a w (aOps_ok l τ σ M a w μ h (fun o ho => hd o (by simp [ho])) hk hq)
    simp only [aOps] at hk
    split at hk <;> try (exact hk.elim)
    · rename_i hg
      rw [if_pos (gdA_ok h hg)]
      split at hk
      · rename_i x args hc
        obtain ⟨c, hop, hcal, hargs⟩ := callOf_ok hc
        split at hk <;> try (exact hk.elim)
        rename_i f caps hf
        have hx := ev_rel h.tm x
        rw [hf] at hx
        simp only [VRel] at hx
        obtain ⟨cs, hx, hcs⟩ := hx
        have hrun : (execOp a.eval o).run P w = .ok (.enter f (args.map a.eval ++ cs).toArray) w := by
          simp only [execOp, hop, resolve, hcal, hx, Deferred.ofValue, Sem.run_bind, Sem.run_pure, Result.andThen_ok, invoke]
          rw [hk.1]
          have e : (#[] ++ c.args.map a.eval ++ cs.toArray : Array Value) = (args.map a.eval ++ cs).toArray := by
            apply Array.toList_inj.1
            simp [← hargs]
          rw [e]
        unfold Oper.wp
        rw [hrun, Oper.upon_enter]
        refine (hk.2 B w0 X μ w (args.map a.eval ++ cs) h.rel (h.fre _ (Nat.le_refl _)) (h.fre _ (by omega)) ((evs_rel h.tm args).append hcs)).mono ?_
        rintro e w' ⟨r, δ, μ', v', rfl, hR, hv, hrel, hsub, hold⟩
        have hk' := h.kM
        exact ih _ _ _ _ _ μ' (h.step hv hrel hsub (fun b hb => hold b (by omega) (by omega)) (fun b hb => (hold b (by omega) (by omega)).trans (h.fre b (by omega))) (by omega) hdo) hR
      · split at hk <;> try (exact hk.elim)
        rename_i v σ' M' hf
        obtain ⟨nx, u, w', μ', hrun, hnx, ha⟩ := fOp_ok h.rel (h.fre _ (Nat.le_refl _)) h.tm hf
        unfold Oper.wp
        rw [hrun]
        rcases hnx with rfl | ⟨rfl, rfl⟩
        · rw [Oper.upon_value]
          exact ih _ _ _ _ _ μ' (h.put ha hdo) hk
        · rw [Oper.upon_skip]
          exact ih _ _ _ _ _ μ' (h.put ha hdo) hk
    · rename_i hg
      have hw := gdA_ok h hg
      rw [if_neg (by rw [hw]; simp)]
      exact ih _ _ _ _ _ μ (h.put (After.same h.rel (by simp [VRel])) hdo) hk

theorem AWP.region {id : Nat} {ops : Array Oper} {Q : Exit → Tm → Sto → Nat → Prop} (hd : (ops.toList.all fun o => match o.dst with | some d => decide (d < N) | none => true) = true)
    (h : ∀ KK : Tm → Sto → Nat → Prop, (∀ τ' σ' M', Q .normal τ' σ' M' → KK τ' σ' M') → aOps P (ops.toList.map (·.dst)) ops.toList KK τ σ M) : AWP P N K (.region id ops false) Q τ σ M := by
  intro B w0 X E a w μ hs
  refine wp_region_list (aOps_ok ops.toList τ σ M a w μ hs (fun o ho d hdd => ?_) (h (Q .normal) fun _ _ _ h => h) fun τ' σ' M' a' w' μ' hq hs' => ⟨τ', σ', M', μ', hq, hs'⟩)
  have := List.all_eq_true.1 hd o ho
  rw [hdd] at this
  simpa using this

theorem AWP.skip {Q : Exit → Tm → Sto → Nat → Prop} (h : Q .normal τ σ M) : AWP P N K .skip Q τ σ M := fun _ _ _ _ _ _ μ hs => wp_skip ⟨τ, σ, M, μ, h, hs⟩
theorem AWP.exit {id : Nat} {Q : Exit → Tm → Sto → Nat → Prop} (h : Q (.exit id) τ σ M) : AWP P N K (.exit id) Q τ σ M := fun _ _ _ _ _ _ μ hs => wp_exit ⟨τ, σ, M, μ, h, hs⟩
theorem AWP.ret {Q : Exit → Tm → Sto → Nat → Prop} (h : Q .ret τ σ M) : AWP P N K .ret Q τ σ M := fun _ _ _ _ _ _ μ hs => wp_ret ⟨τ, σ, M, μ, h, hs⟩

def thenA (next : Tm → Sto → Nat → Prop) (Q : Exit → Tm → Sto → Nat → Prop) : Exit → Tm → Sto → Nat → Prop
  | .normal, τ, σ, M => next τ σ M
  | e, τ, σ, M => Q e τ σ M
theorem AWP.seq {x y : Code} {Q : Exit → Tm → Sto → Nat → Prop} (h : AWP P N K x (thenA (AWP P N K y Q) Q) τ σ M) : AWP P N K (.seq x y) Q τ σ M := by
  intro B w0 X E a w μ hs
  refine wp_seq (wp_mono (h B w0 X E a w μ hs) ?_)
  rintro e a' w' ⟨τ', σ', M', μ', hq, hs'⟩
  cases e with
  | normal => exact hq B w0 X E a' w' μ' hs'
  | _ => exact ⟨τ', σ', M', μ', hq, hs'⟩

def blockA (id : Nat) (Q : Exit → Tm → Sto → Nat → Prop) : Exit → Tm → Sto → Nat → Prop
  | .exit id', τ, σ, M => if id' = id then Q .normal τ σ M else Q (.exit id') τ σ M
  | e, τ, σ, M => Q e τ σ M
theorem AWP.block {id : Nat} {c : Code} {Q : Exit → Tm → Sto → Nat → Prop} (h : AWP P N K c (blockA id Q) τ σ M) : AWP P N K (.block id c) Q τ σ M := by
  intro B w0 X E a w μ hs
  refine wp_block (wp_mono (h B w0 X E a w μ hs) ?_)
  rintro e a' w' ⟨τ', σ', M', μ', hq, hs'⟩
  cases e with
  | exit id' =>
    simp only [blockA] at hq
    simp only [Exit.inBlock]
    split at hq
    · rename_i he; rw [if_pos he]; exact ⟨τ', σ', M', μ', hq, hs'⟩
    · rename_i he; rw [if_neg he]; exact ⟨τ', σ', M', μ', hq, hs'⟩
  | _ => exact ⟨τ', σ', M', μ', hq, hs'⟩

theorem AWP.if_ {c : Operand} {x y : Code} {t : Bool} {Q : Exit → Tm → Sto → Nat → Prop} (hc : ev τ c = .v (.bool t)) (h1 : t = true → AWP P N K x Q τ σ M) (h2 : t = false → AWP P N K y Q τ σ M) : AWP P N K (.cond c x y) Q τ σ M := by
  intro B w0 X E a w μ hs
  have := ev_rel hs.tm c
  rw [hc] at this
  simp only [VRel] at this
  exact wp_cond_split this (fun ht => h1 ht B w0 X E a w μ hs) (fun ht => h2 ht B w0 X E a w μ hs)
theorem AWP.if_t {c : Operand} {x y : Code} {Q : Exit → Tm → Sto → Nat → Prop} (hc : ev τ c = .v (.bool true)) (h : AWP P N K x Q τ σ M) : AWP P N K (.cond c x y) Q τ σ M := AWP.if_ hc (fun _ => h) (fun h => by cases h)
theorem AWP.if_f {c : Operand} {x y : Code} {Q : Exit → Tm → Sto → Nat → Prop} (hc : ev τ c = .v (.bool false)) (h : AWP P N K y Q τ σ M) : AWP P N K (.cond c x y) Q τ σ M := AWP.if_ hc (fun h => by cases h) (fun _ => h)
theorem AWP.if_b {c : Operand} {x y : Code} {Q : Exit → Tm → Sto → Nat → Prop} (hc : ev τ c = .bl) (h1 : AWP P N K x Q τ σ M) (h2 : AWP P N K y Q τ σ M) : AWP P N K (.cond c x y) Q τ σ M := by
  intro B w0 X E a w μ hs
  have := ev_rel hs.tm c
  rw [hc] at this
  simp only [VRel] at this
  obtain ⟨t, ht⟩ := this
  exact wp_cond_split ht (fun _ => h1 B w0 X E a w μ hs) (fun _ => h2 B w0 X E a w μ hs)

/-- What is known of a frame and a world may be said otherwise. -/
def Weak (K : Nat) (τ : Tm) (σ : Sto) (M : Nat) (τ' : Tm) (σ' : Sto) (M' : Nat) : Prop :=
  ∀ (B : Nat) (w0 : World) (X : Nat → Prop) (N : Nat) (E : Mu) (a : Act) (w : World) (μ : Mu), HS B w0 X N K E τ σ M a w μ → ∃ μ', HS B w0 X N K E τ' σ' M' a w μ'

theorem AWP.weak {c : Code} {Q : Exit → Tm → Sto → Nat → Prop} {τ' : Tm} {σ' : Sto} {M' : Nat} (hw : Weak K τ σ M τ' σ' M') (h : AWP P N K c Q τ' σ' M') : AWP P N K c Q τ σ M := by
  intro B w0 X E a w μ hs
  obtain ⟨μ', hs'⟩ := hw B w0 X N E a w μ hs
  exact h B w0 X E a w μ' hs'

/-- What a loop's round owes: another state of the relation, with a smaller number. -/
def Again (K : Nat) (I : Nat → Tm → Sto → Nat → Prop) (n : Nat) (τ : Tm) (σ : Sto) (M : Nat) : Prop :=
  ∃ m τ' σ' M', m < n ∧ I m τ' σ' M' ∧ Weak K τ σ M τ' σ' M'

theorem AWP.loop {c : Code} {Q : Exit → Tm → Sto → Nat → Prop} (I : Nat → Tm → Sto → Nat → Prop) (h0 : ∃ n τ' σ' M', I n τ' σ' M' ∧ Weak K τ σ M τ' σ' M')
    (h : ∀ n τ σ M, I n τ σ M → AWP P N K c (thenA (Again K I n) Q) τ σ M) : AWP P N K (.loop c) Q τ σ M := by
  intro B w0 X E a w μ hs
  obtain ⟨n, τ', σ', M', hI, hw⟩ := h0
  obtain ⟨μ', hs'⟩ := hw B w0 X N E a w μ hs
  refine wp_loop_ghost (fun n a w => ∃ τ σ M μ, I n τ σ M ∧ HS B w0 X N K E τ σ M a w μ) n ⟨τ', σ', M', μ', hI, hs'⟩ ?_
  rintro n a w ⟨τ, σ, M, μ, hI, hs⟩
  refine wp_mono (h n τ σ M hI B w0 X E a w μ hs) ?_
  rintro e a' w' ⟨τ', σ', M', μ', hq, hs'⟩
  cases e with
  | normal =>
    obtain ⟨m, τ2, σ2, M2, hm, hI2, hw2⟩ := hq
    obtain ⟨μ2, hs2⟩ := hw2 B w0 X N E a' w' μ' hs'
    exact ⟨m, hm, τ2, σ2, M2, μ2, hI2, hs2⟩
  | _ => exact ⟨τ', σ', M', μ', hq, hs'⟩
end

end Go.Proofs.Ythjjfdbkggiaeaa
